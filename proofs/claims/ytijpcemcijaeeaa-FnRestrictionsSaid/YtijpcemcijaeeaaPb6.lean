/- The functions that this seat's laws reach, each as a plain Lean function, and the walk of each; written by a program over the kit's print. No conditions but those that stand in the theorems. -/
import Derived.Test.YtijpcemcijaeeaaP0
import Derived.Test.YtijpcemcijaeeaaPb5
import Derived.Test.YtijpcemcijaeeaaK8
namespace Go.Proofs.Ytijpcemcijaeeaa.P
open Go.RowKit Go.Proofs.YtijpcemcijaeeaaW.PrintWords Go.Proofs.YtijpcemcijaeeaaW.PrintLast Go.Proofs.YtijpcemcijaeeaaW.PrintMore
attribute [local go_sem] max2_int min2_int max_two min_two max_three min_three max_four min_four   -- for this text's walks alone
set_option linter.unusedVariables false
set_option linter.unusedSimpArgs false

attribute [local go_sem] fld23_0 fld23_1
/-! ### spec_l2Any: function 121 -/
def spec_l2Any.f (k : Nat) (s0_0 : List Int) (s0_1 : Int) (s0_2 : Int) : Option (Int × Int × Int × Int) := (spec_l1Below.f s0_0 s0_1 s0_2 5).bind fun bt642 => ((spec_l2Draw.f k s0_0 bt642.2.1 bt642.2.2 bt642.1).bind fun bt645 => ((spec_l1Below.f s0_0 bt645.2.2.1 bt645.2.2.2 14).bind fun bt650 => (if bt650.1 = 0 then ((spec_l1PickInt.f s0_0 bt650.2.1 bt650.2.2 (([(-1), 6, 5, 0, 9223372036854775807] : List Int))).bind fun bt656 => (some (bt656.1, bt645.2.1, bt656.2.1, bt656.2.2))) else (if bt650.1 = 1 then ((spec_l1PickInt.f s0_0 bt650.2.1 bt650.2.2 (([(-1), 0, 1, 65536, 9223372036854775807] : List Int))).bind fun bt662 => (some (bt645.1, bt662.1, bt662.2.1, bt662.2.2))) else (some (bt645.1, bt645.2.1, bt650.2.1, bt650.2.2))))))
theorem spec_l2Any.mono : ∀ a0 a1 a2 k, LeO (spec_l2Any.f k a0 a1 a2) (spec_l2Any.f (k + 1) a0 a1 a2) := by
 intro a0 a1 a2 k
 unfold spec_l2Any.f
 repeat' first
   | (with_reducible exact spec_l2Draw.mono _ _ _ _ _)
   | (with_reducible exact LeO.refl _)
   | (with_reducible exact LeO.none _)
   | (with_reducible refine LeO.ite ?_ ?_)
   | (with_reducible refine LeO.bind ?_ (fun _ => ?_))
   | exact spec_l2Draw.mono _ _ _ _ _
   | exact LeO.none _
   | refine LeO.ite ?_ ?_
   | refine LeO.bind ?_ (fun _ => ?_)
set_option maxHeartbeats 8000000 in
set_option maxRecDepth 100000 in
theorem spec_l2Any.calls (k : Nat) (g : Nat) (s0_0 : List Int) (s0_1 : Int) (s0_2 : Int) (r1 : Int) (r2 : Int) (r3 : Int) (r4 : Int) (w0 w : World) (hI : IsS109 w0 w g s0_0 s0_1 s0_2) (hB : Below w0.heap.size w0 w) (h : spec_l2Any.f k s0_0 s0_1 s0_2 = some (r1, r2, r3, r4)) :
  Calls Try.prog 121 #[.pointer (some ⟨g, 0, none⟩)] w fun e w' => e = .returned (.agg #[.int .i64 r1, .int .i64 r2]) ∧ IsS109 w0 w' g s0_0 r3 r4 ∧ Below w0.heap.size w0 w' ∧ KeepBut w w' g none := by
 have hu23 := Try.underlying23
 have HI0 := zA hI
 have HK := zA (KeepBut.refl w g none)
 have HL := zA hB.size
 clear hI
 have HW0 := zA hB.size
 have HB := zA hB
 clear hB
 have H := h
 unfold spec_l2Any.f at H
 clear h
 replace H := Option.bind_eq_some_iff.mp H
 obtain ⟨⟨t642, t643, t644⟩, A20, H⟩ := H
 replace H : ((spec_l2Draw.f k s0_0 t643 t644 t642).bind fun bt645 => ((spec_l1Below.f s0_0 bt645.2.2.1 bt645.2.2.2 14).bind fun bt650 => (if bt650.1 = 0 then ((spec_l1PickInt.f s0_0 bt650.2.1 bt650.2.2 (([(-1), 6, 5, 0, 9223372036854775807] : List Int))).bind fun bt656 => (some (bt656.1, bt645.2.1, bt656.2.1, bt656.2.2))) else (if bt650.1 = 1 then ((spec_l1PickInt.f s0_0 bt650.2.1 bt650.2.2 (([(-1), 0, 1, 65536, 9223372036854775807] : List Int))).bind fun bt662 => (some (bt645.1, bt662.1, bt662.2.1, bt662.2.2))) else (some (bt645.1, bt645.2.1, bt650.2.1, bt650.2.2)))))) = some (r1, r2, r3, r4) := H
 have A2 := zA A20
 clear A20
 replace H := Option.bind_eq_some_iff.mp H
 obtain ⟨⟨t645, t646, t647, t648⟩, A30, H⟩ := H
 replace H : ((spec_l1Below.f s0_0 t647 t648 14).bind fun bt650 => (if bt650.1 = 0 then ((spec_l1PickInt.f s0_0 bt650.2.1 bt650.2.2 (([(-1), 6, 5, 0, 9223372036854775807] : List Int))).bind fun bt656 => (some (bt656.1, t646, bt656.2.1, bt656.2.2))) else (if bt650.1 = 1 then ((spec_l1PickInt.f s0_0 bt650.2.1 bt650.2.2 (([(-1), 0, 1, 65536, 9223372036854775807] : List Int))).bind fun bt662 => (some (t645, bt662.1, bt662.2.1, bt662.2.2))) else (some (t645, t646, bt650.2.1, bt650.2.2))))) = some (r1, r2, r3, r4) := H
 have A3 := zA A30
 clear A30
 replace H := Option.bind_eq_some_iff.mp H
 obtain ⟨⟨t650, t651, t652⟩, A40, H⟩ := H
 replace H : (if t650 = 0 then ((spec_l1PickInt.f s0_0 t651 t652 (([(-1), 6, 5, 0, 9223372036854775807] : List Int))).bind fun bt656 => (some (bt656.1, t646, bt656.2.1, bt656.2.2))) else (if t650 = 1 then ((spec_l1PickInt.f s0_0 t651 t652 (([(-1), 0, 1, 65536, 9223372036854775807] : List Int))).bind fun bt662 => (some (t645, bt662.1, bt662.2.1, bt662.2.2))) else (some (t645, t646, t651, t652)))) = some (r1, r2, r3, r4) := H
 have A4 := zA A40
 clear A40
 by_cases c5 : t650 = 0
 ·rw [if_pos c5] at H
  have c5b0 : (t650 == 0) = true := beq_iff_eq.mpr c5
  have c5b1 : (t650 != 0) = false := bne_eq_false_iff_eq.mpr c5
  clear c5
  obtain ⟨y653, hy653⟩ : ∃ y_ : List Int, y_ = (([(-1), 6, 5, 0, 9223372036854775807] : List Int)) := ⟨_, rfl⟩
  replace H : ((spec_l1PickInt.f s0_0 t651 t652 y653).bind fun bt656 => (some (bt656.1, t646, bt656.2.1, bt656.2.2))) = some (r1, r2, r3, r4) := by first | (rw [hy653]; with_reducible exact H) | (have H2_ := (Option.bind_some _ _).symm.trans H; rw [hy653]; with_reducible exact H2_) | (have H2_ := (Option.bind_some _ _).symm.trans H; with_reducible exact H2_) | with_reducible exact H | (rw [hy653]; exact H) | exact H
  have Ny653 := zA hy653
  clear hy653
  replace H := Option.bind_eq_some_iff.mp H
  obtain ⟨⟨t656, t657, t658⟩, A60, H⟩ := H
  replace H : (some (t656, t646, t657, t658)) = some (r1, r2, r3, r4) := H
  have A6 := zA A60
  clear A60
  simp only [Option.some.injEq, Prod.mk.injEq] at H
  obtain ⟨rfl, rfl, rfl, rfl⟩ := H
  go_enter Try.func121, Try.ntmps121
  go_wp2_with (first | ((with_reducible refine gate_dst (N := 2) rfl ?_); refine box_event ?hg (N := 2) ?hd (cs := #[.int .i64 0, .int .i64 0]) (t := 23) ?hr ?_; (case hd => rfl); (case hg => rfl); (case hr => exact zH); intro gb641 hg w7 hbox hb; have BK641 := zA (hbox); have GW641 := zA ((by rw [hg]; exact (keep_size (w := w) (g := g) (row := none) (by repeat (first | (with_reducible first | exact HK.out | apply KeepBut.set_ | apply keep_drewN | apply keep_drew | apply keep_alloc) | exact HK.out))) : w.heap.size ≤ gb641)); have GE641 := zA ((Nat.le_trans HW0.out (by rw [hg]; exact (keep_size (w := w) (g := g) (row := none) (by repeat (first | (with_reducible first | exact HK.out | apply KeepBut.set_ | apply keep_drewN | apply keep_drew | apply keep_alloc) | exact HK.out))) : w.heap.size ≤ gb641) : w0.heap.size ≤ gb641)); have NB0_641 := zA ((by rw [hg]; exact Nat.ne_of_lt (IsS109.lt (show IsS109 w0 _ g s0_0 s0_1 s0_2 from by repeat (first | (with_reducible first | exact HI0.out | apply IsS109.alloc | apply IsS109.drewN | apply IsS109.drew | apply IsS109.set_1 | apply IsS109.set_2) | exact HI0.out))) : g ≠ gb641)); have NB641_0 := zA ((by rw [hg]; exact Nat.ne_of_gt (IsS109.lt (show IsS109 w0 _ g s0_0 s0_1 s0_2 from by repeat (first | (with_reducible first | exact HI0.out | apply IsS109.alloc | apply IsS109.drewN | apply IsS109.drew | apply IsS109.set_1 | apply IsS109.set_2) | exact HI0.out))) : gb641 ≠ g)); replace HK := zA (KeepBut.trans (by repeat (first | (with_reducible first | exact HK.out | apply KeepBut.set_ | apply keep_drewN | apply keep_drew | apply keep_alloc) | exact HK.out)) (KeepBut.of_below hb g none) (.inl rfl)); replace HB := zA (below_step (by repeat (first | (with_reducible first | exact HB.out | apply below_alloc | apply pw_below_drewN | apply below_drew1 | refine below_set ?_ (IsS109.ge HI0.out)) | exact HB.out)) hb); replace HI0 := zA (IsS109.below (by repeat (first | (with_reducible first | exact HI0.out | apply IsS109.alloc | apply IsS109.drewN | apply IsS109.drew | apply IsS109.set_1 | apply IsS109.set_2) | exact HI0.out)) hb); clear hb hbox hg) | ((with_reducible refine gate_callee (f := 122) rfl ?_); refine goesL_ (some 6) rfl rfl Try.func122 (by kernel_rfl) rfl #[.pointer (some ⟨g, 0, none⟩), .int .i64 5] rfl zM ?_; (with_reducible refine (spec_l1Below.calls g s0_0 s0_1 s0_2 5 t642 t643 t644 w0 _ ?side1 ?side2 A2.out).mono ?_); (case side1 => repeat (first | (with_reducible first | exact HI0.out | apply IsS109.alloc | apply IsS109.drewN | apply IsS109.drew | apply IsS109.set_1 | apply IsS109.set_2 | refine IsS109.far ?_ NB0_641.out _) | exact HI0.out)); (case side2 => repeat (first | (with_reducible first | exact HB.out | apply below_alloc | apply pw_below_drewN | apply below_drew1 | refine below_set ?_ (IsS109.ge HI0.out) | refine below_set ?_ GE641.out) | exact HB.out)); rintro e w8 ⟨rfl, hi, hb, hk⟩; refine ⟨_, rfl, ?_⟩; replace BK641 := zA (KeepBut.blk hk (g' := gb641) (o := .cells #[.int .i64 0, .int .i64 0] 23 (0, 0)) (zD BK641) NB641_0.out (by simp)); replace HK := zA (KeepBut.trans (by repeat (first | (with_reducible first | exact HK.out | apply KeepBut.set_ | apply keep_drewN | apply keep_drew | apply keep_alloc | refine keep_far ?_ GW641.out _) | exact HK.out)) hk (.inl rfl)); replace HB := zA (hb); replace HI0 := zA (hi); (try clear hb); (try clear hb2); (try clear hk); (try clear hi)) | ((with_reducible refine gate_callee (f := 138) rfl ?_); refine goesL_ (some 7) rfl rfl Try.func138 (by kernel_rfl) rfl #[.pointer (some ⟨g, 0, none⟩), .int .i64 t642] rfl zM ?_; (with_reducible refine (spec_l2Draw.calls k g s0_0 t643 t644 t642 t645 t646 t647 t648 w0 _ ?side1 ?side2 A3.out).mono ?_); (case side1 => repeat (first | (with_reducible first | exact HI0.out | apply IsS109.alloc | apply IsS109.drewN | apply IsS109.drew | apply IsS109.set_1 | apply IsS109.set_2 | refine IsS109.far ?_ NB0_641.out _) | exact HI0.out)); (case side2 => repeat (first | (with_reducible first | exact HB.out | apply below_alloc | apply pw_below_drewN | apply below_drew1 | refine below_set ?_ (IsS109.ge HI0.out) | refine below_set ?_ GE641.out) | exact HB.out)); rintro e w9 ⟨rfl, hi, hb, hk⟩; refine ⟨_, rfl, ?_⟩; replace BK641 := zA (KeepBut.blk hk (g' := gb641) (o := .cells #[.int .i64 0, .int .i64 0] 23 (0, 0)) (zD BK641) NB641_0.out (by simp)); replace HK := zA (KeepBut.trans (by repeat (first | (with_reducible first | exact HK.out | apply KeepBut.set_ | apply keep_drewN | apply keep_drew | apply keep_alloc | refine keep_far ?_ GW641.out _) | exact HK.out)) hk (.inl rfl)); replace HB := zA (hb); replace HI0 := zA (hi); (try clear hb); (try clear hb2); (try clear hk); (try clear hi)) | ((with_reducible refine gate_dst (N := 3) rfl ?_); refine box_event ?hg (N := 3) ?hd (cs := #[.int .i64 0, .int .i64 0]) (t := 23) ?hr ?_; (case hd => rfl); (case hg => rfl); (case hr => exact zH); intro gb649 hg w10 hbox hb; have BK649 := zA (hbox); have GW649 := zA ((by rw [hg]; exact (keep_size (w := w) (g := g) (row := none) (by repeat (first | (with_reducible first | exact HK.out | apply KeepBut.set_ | apply keep_drewN | apply keep_drew | apply keep_alloc | refine keep_far ?_ GW641.out _) | exact HK.out))) : w.heap.size ≤ gb649)); have GE649 := zA ((Nat.le_trans HW0.out (by rw [hg]; exact (keep_size (w := w) (g := g) (row := none) (by repeat (first | (with_reducible first | exact HK.out | apply KeepBut.set_ | apply keep_drewN | apply keep_drew | apply keep_alloc | refine keep_far ?_ GW641.out _) | exact HK.out))) : w.heap.size ≤ gb649) : w0.heap.size ≤ gb649)); have NB641_649 := zn BK641 hg; have NB649_641 := zo BK641 hg; have NB0_649 := zA ((by rw [hg]; exact Nat.ne_of_lt (IsS109.lt (show IsS109 w0 _ g s0_0 t647 t648 from by repeat (first | (with_reducible first | exact HI0.out | apply IsS109.alloc | apply IsS109.drewN | apply IsS109.drew | apply IsS109.set_1 | apply IsS109.set_2 | refine IsS109.far ?_ NB0_641.out _) | exact HI0.out))) : g ≠ gb649)); have NB649_0 := zA ((by rw [hg]; exact Nat.ne_of_gt (IsS109.lt (show IsS109 w0 _ g s0_0 t647 t648 from by repeat (first | (with_reducible first | exact HI0.out | apply IsS109.alloc | apply IsS109.drewN | apply IsS109.drew | apply IsS109.set_1 | apply IsS109.set_2 | refine IsS109.far ?_ NB0_641.out _) | exact HI0.out))) : gb649 ≠ g)); replace BK641 := zb BK641 hb; replace HK := zA (KeepBut.trans (by repeat (first | (with_reducible first | exact HK.out | apply KeepBut.set_ | apply keep_drewN | apply keep_drew | apply keep_alloc | refine keep_far ?_ GW641.out _) | exact HK.out)) (KeepBut.of_below hb g none) (.inl rfl)); replace HB := zA (below_step (by repeat (first | (with_reducible first | exact HB.out | apply below_alloc | apply pw_below_drewN | apply below_drew1 | refine below_set ?_ (IsS109.ge HI0.out) | refine below_set ?_ GE641.out) | exact HB.out)) hb); replace HI0 := zA (IsS109.below (by repeat (first | (with_reducible first | exact HI0.out | apply IsS109.alloc | apply IsS109.drewN | apply IsS109.drew | apply IsS109.set_1 | apply IsS109.set_2 | refine IsS109.far ?_ NB0_641.out _) | exact HI0.out)) hb); clear hb hbox hg; have hnb11 := NB649_641.out; have hnc11 := NB641_649.out; have hnb12 := NB649_0.out; have hnc12 := NB0_649.out; have hcz13_0 := zc0 BK649; have hcz13_1 := zc1 BK649; have hfz13_0 := blk_frozen BK649.out 0; have hfz13_1 := blk_frozen BK649.out 1) | ((with_reducible refine gate_callee (f := 122) rfl ?_); refine goesL_ (some 9) rfl rfl Try.func122 (by kernel_rfl) rfl #[.pointer (some ⟨g, 0, none⟩), .int .i64 14] rfl zM ?_; (with_reducible refine (spec_l1Below.calls g s0_0 t647 t648 14 t650 t651 t652 w0 _ ?side1 ?side2 A4.out).mono ?_); (case side1 => repeat (first | (with_reducible first | exact HI0.out | apply IsS109.alloc | apply IsS109.drewN | apply IsS109.drew | apply IsS109.set_1 | apply IsS109.set_2 | refine IsS109.far ?_ NB0_641.out _ | refine IsS109.far ?_ NB0_649.out _) | exact HI0.out)); (case side2 => repeat (first | (with_reducible first | exact HB.out | apply below_alloc | apply pw_below_drewN | apply below_drew1 | refine below_set ?_ (IsS109.ge HI0.out) | refine below_set ?_ GE641.out | refine below_set ?_ GE649.out) | exact HB.out)); rintro e w14 ⟨rfl, hi, hb, hk⟩; refine ⟨_, rfl, ?_⟩; replace BK641 := zA (KeepBut.blk hk (g' := gb641) (o := .cells #[.int .i64 0, .int .i64 0] 23 (0, 0)) (zF BK641 NB641_649) NB641_0.out (by simp)); replace BK649 := zA (KeepBut.blk hk (g' := gb649) (o := .cells #[.int .i64 t645, .int .i64 t646] 23 (0, 0)) (zP BK649) NB649_0.out (by simp)); replace HK := zA (KeepBut.trans (by repeat (first | (with_reducible first | exact HK.out | apply KeepBut.set_ | apply keep_drewN | apply keep_drew | apply keep_alloc | refine keep_far ?_ GW641.out _ | refine keep_far ?_ GW649.out _) | exact HK.out)) hk (.inl rfl)); replace HB := zA (hb); replace HI0 := zA (hi); (try clear hb); (try clear hb2); (try clear hk); (try clear hi)) | ((with_reducible refine gate_dst (N := 13) rfl ?_); refine Kd.R_lit (Kd.int .i64) _ 3 ?hg (N := 13) ?hd (xs := ([(-1), 6, 5, 0, 9223372036854775807] : List Int)) (inner := [.int .i64 (-1), .int .i64 6, .int .i64 5, .int .i64 0, .int .i64 9223372036854775807]) (ok := fun _ => True) (okp := fun _ => True) ?hr ?hp (fun _ hk => hk) trivial (Below.refl _ _) (Nat.le_refl _) (by simp) ?_; (case hd => rfl); (case hg => rfl); (case hr => exact zH); (case hp => exact (Reps.one (show Kd.M (Kd.int .i64) _ _ _ (-1) [.int .i64 (-1)] from rfl) (Reps.one (show Kd.M (Kd.int .i64) _ _ _ 6 [.int .i64 6] from rfl) (Reps.one (show Kd.M (Kd.int .i64) _ _ _ 5 [.int .i64 5] from rfl) (Reps.one (show Kd.M (Kd.int .i64) _ _ _ 0 [.int .i64 0] from rfl) (Reps.one (show Kd.M (Kd.int .i64) _ _ _ 9223372036854775807 [.int .i64 9223372036854775807] from rfl) (Reps.none _ _))))))); intro v654 w15 ho16 hb hg_ hnew_; clear hg_ hnew_; (first | rw [← Ny653.out] at ho16 | (simp only [Int.reduceToNat] at ho16; rw [← Ny653.out] at ho16)); have HO655 := zA (Kd.R_lower ho16 (keep_size (w := w) (g := g) (row := none) (by repeat (first | (with_reducible first | exact HK.out | apply KeepBut.set_ | apply keep_drewN | apply keep_drew | apply keep_alloc | refine keep_far ?_ GW641.out _ | refine keep_far ?_ GW649.out _) | exact HK.out)))); replace BK641 := zb BK641 hb; replace BK649 := zb BK649 hb; replace HK := zA (KeepBut.trans (by repeat (first | (with_reducible first | exact HK.out | apply KeepBut.set_ | apply keep_drewN | apply keep_drew | apply keep_alloc | refine keep_far ?_ GW641.out _ | refine keep_far ?_ GW649.out _) | exact HK.out)) (KeepBut.of_below hb g none) (.inl rfl)); replace HB := zA (below_step (by repeat (first | (with_reducible first | exact HB.out | apply below_alloc | apply pw_below_drewN | apply below_drew1 | refine below_set ?_ (IsS109.ge HI0.out) | refine below_set ?_ GE641.out | refine below_set ?_ GE649.out) | exact HB.out)) hb); replace HI0 := zA (IsS109.below (by repeat (first | (with_reducible first | exact HI0.out | apply IsS109.alloc | apply IsS109.drewN | apply IsS109.drew | apply IsS109.set_1 | apply IsS109.set_2 | refine IsS109.far ?_ NB0_641.out _ | refine IsS109.far ?_ NB0_649.out _) | exact HI0.out)) hb); clear hb ho16; obtain ⟨Ao17, co17, eo17⟩ := Kd.R_slice HO655.out; subst eo17) | ((with_reducible refine gate_callee (f := 124) rfl ?_); refine goesL_ (some 14) rfl rfl Try.func124 (by kernel_rfl) rfl #[.pointer (some ⟨g, 0, none⟩), .slice Ao17 y653.length co17] rfl zM ?_; (with_reducible refine (spec_l1PickInt.calls g s0_0 t651 t652 _ _ y653 t656 t657 t658 w0 _ ?side1 ?side2 ?side3 ?side4 ?side5 A6.out).mono ?_); (case side1 => repeat (first | (with_reducible first | exact HI0.out | apply IsS109.alloc | apply IsS109.drewN | apply IsS109.drew | apply IsS109.set_1 | apply IsS109.set_2 | refine IsS109.far ?_ NB0_641.out _ | refine IsS109.far ?_ NB0_649.out _) | exact HI0.out)); (case side2 => repeat (first | (with_reducible first | exact HB.out | apply below_alloc | apply pw_below_drewN | apply below_drew1 | refine below_set ?_ (IsS109.ge HI0.out) | refine below_set ?_ GE641.out | refine below_set ?_ GE649.out) | exact HB.out)); (case side3 => repeat (first | exact (Kd.R_reads' HO655.out).2.2 | (with_reducible refine Kd.C_alloc ?_ _) | (with_reducible refine Kd.C_drewN ?_ _) | (with_reducible refine Kd.C_drew ?_))); (case side4 => exact (Kd.R_reads' HO655.out).2.1); (case side5 => exact far_slice (IsS109.own_ne HI0.out HO655.out (by decide))); rintro e w18 ⟨rfl, hi, hb, hk⟩; refine ⟨_, rfl, ?_⟩; replace BK641 := zA (KeepBut.blk hk (g' := gb641) (o := .cells #[.int .i64 0, .int .i64 0] 23 (0, 0)) (zD BK641) NB641_0.out (by simp)); replace BK649 := zA (KeepBut.blk hk (g' := gb649) (o := .cells #[.int .i64 t645, .int .i64 t646] 23 (0, 0)) (zD BK649) NB649_0.out (by simp)); replace HO655 := zA (Kd.R_mono (Kd.R_keep (IsS109.apart (show IsS109 w0 _ g s0_0 t651 t652 from by repeat (first | (with_reducible first | exact HI0.out | apply IsS109.alloc | apply IsS109.drewN | apply IsS109.drew | apply IsS109.set_1 | apply IsS109.set_2 | refine IsS109.far ?_ NB0_641.out _ | refine IsS109.far ?_ NB0_649.out _) | exact HI0.out)) (zR HO655) (by decide)) hk (fun _ h => h.2)) (fun _ h => h.1)); replace HK := zA (KeepBut.trans (by repeat (first | (with_reducible first | exact HK.out | apply KeepBut.set_ | apply keep_drewN | apply keep_drew | apply keep_alloc | refine keep_far ?_ GW641.out _ | refine keep_far ?_ GW649.out _) | exact HK.out)) hk (.inl rfl)); replace HB := zA (hb); replace HI0 := zA (hi); (try clear hb); (try clear hb2); (try clear hk); (try clear hi); have hcz19_0 := zc0 BK649; have hcz19_1 := zc1 BK649; have hfz19_0 := blk_frozen BK649.out 0; have hfz19_1 := blk_frozen BK649.out 1; have hnb20 := NB641_0.out; have hnc20 := NB0_641.out; have hcz21_0 := zc0 BK641; have hcz21_1 := zc1 BK641; have hfz21_0 := blk_frozen BK641.out 0; have hfz21_1 := blk_frozen BK641.out 1))
  refine bodyPost_ret (results_cell_row rfl _ _ gb641 23 #[.int .i64 t656, .int .i64 t646] (0, 0) _ rfl (by (with_reducible repeat (first | refine blk_drewN ?_ _ | refine blk_drew ?_ | refine blk_alloc ?_ _)); refine blk_put (cs := #[.int .i64 t656, .int .i64 0]) ?_ 1 _ rfl; (with_reducible repeat (first | refine blk_drewN ?_ _ | refine blk_drew ?_ | refine blk_alloc ?_ _)); refine blk_put (cs := #[.int .i64 0, .int .i64 0]) ?_ 0 _ rfl; (with_reducible repeat (first | refine blk_drewN ?_ _ | refine blk_drew ?_ | refine blk_alloc ?_ _)); refine blk_far ?_ NB641_649.out _; (with_reducible repeat (first | refine blk_drewN ?_ _ | refine blk_drew ?_ | refine blk_alloc ?_ _)); exact BK641.out) Try.underlying23 rfl (by kernel_rfl)) rfl ?_
  exact ⟨by first | rfl | (simp [errW_none, errW_some] <;> rfl) | (simp [*, errW_none, errW_some] <;> rfl), by repeat (first | (with_reducible first | exact HI0.out | apply IsS109.alloc | apply IsS109.drewN | apply IsS109.drew | apply IsS109.set_1 | apply IsS109.set_2 | refine IsS109.far ?_ NB0_641.out _ | refine IsS109.far ?_ NB0_649.out _) | exact HI0.out), by repeat (first | (with_reducible first | exact HB.out | apply below_alloc | apply pw_below_drewN | apply below_drew1 | refine below_set ?_ (IsS109.ge HI0.out) | refine below_set ?_ GE641.out | refine below_set ?_ GE649.out) | exact HB.out), by repeat (first | (with_reducible first | exact HK.out | apply KeepBut.set_ | apply keep_drewN | apply keep_drew | apply keep_alloc | refine keep_far ?_ GW641.out _ | refine keep_far ?_ GW649.out _) | exact HK.out)⟩
 ·rw [if_neg c5] at H
  have c5b0 : (t650 == 0) = false := beq_eq_false_iff_ne.mpr c5
  have c5b1 : (t650 != 0) = true := bne_iff_ne.mpr c5
  by_cases c22 : t650 = 1
  ·rw [if_pos c22] at H
   have c22b0 : (t650 == 1) = true := beq_iff_eq.mpr c22
   have c22b1 : (t650 != 1) = false := bne_eq_false_iff_eq.mpr c22
   clear c22
   obtain ⟨y659, hy659⟩ : ∃ y_ : List Int, y_ = (([(-1), 0, 1, 65536, 9223372036854775807] : List Int)) := ⟨_, rfl⟩
   replace H : ((spec_l1PickInt.f s0_0 t651 t652 y659).bind fun bt662 => (some (t645, bt662.1, bt662.2.1, bt662.2.2))) = some (r1, r2, r3, r4) := by first | (rw [hy659]; with_reducible exact H) | (have H2_ := (Option.bind_some _ _).symm.trans H; rw [hy659]; with_reducible exact H2_) | (have H2_ := (Option.bind_some _ _).symm.trans H; with_reducible exact H2_) | with_reducible exact H | (rw [hy659]; exact H) | exact H
   have Ny659 := zA hy659
   clear hy659
   replace H := Option.bind_eq_some_iff.mp H
   obtain ⟨⟨t662, t663, t664⟩, A230, H⟩ := H
   replace H : (some (t645, t662, t663, t664)) = some (r1, r2, r3, r4) := H
   have A23 := zA A230
   clear A230
   simp only [Option.some.injEq, Prod.mk.injEq] at H
   obtain ⟨rfl, rfl, rfl, rfl⟩ := H
   go_enter Try.func121, Try.ntmps121
   go_wp2_with (first | ((with_reducible refine gate_dst (N := 2) rfl ?_); refine box_event ?hg (N := 2) ?hd (cs := #[.int .i64 0, .int .i64 0]) (t := 23) ?hr ?_; (case hd => rfl); (case hg => rfl); (case hr => exact zH); intro gb641 hg w24 hbox hb; have BK641 := zA (hbox); have GW641 := zA ((by rw [hg]; exact (keep_size (w := w) (g := g) (row := none) (by repeat (first | (with_reducible first | exact HK.out | apply KeepBut.set_ | apply keep_drewN | apply keep_drew | apply keep_alloc) | exact HK.out))) : w.heap.size ≤ gb641)); have GE641 := zA ((Nat.le_trans HW0.out (by rw [hg]; exact (keep_size (w := w) (g := g) (row := none) (by repeat (first | (with_reducible first | exact HK.out | apply KeepBut.set_ | apply keep_drewN | apply keep_drew | apply keep_alloc) | exact HK.out))) : w.heap.size ≤ gb641) : w0.heap.size ≤ gb641)); have NB0_641 := zA ((by rw [hg]; exact Nat.ne_of_lt (IsS109.lt (show IsS109 w0 _ g s0_0 s0_1 s0_2 from by repeat (first | (with_reducible first | exact HI0.out | apply IsS109.alloc | apply IsS109.drewN | apply IsS109.drew | apply IsS109.set_1 | apply IsS109.set_2) | exact HI0.out))) : g ≠ gb641)); have NB641_0 := zA ((by rw [hg]; exact Nat.ne_of_gt (IsS109.lt (show IsS109 w0 _ g s0_0 s0_1 s0_2 from by repeat (first | (with_reducible first | exact HI0.out | apply IsS109.alloc | apply IsS109.drewN | apply IsS109.drew | apply IsS109.set_1 | apply IsS109.set_2) | exact HI0.out))) : gb641 ≠ g)); replace HK := zA (KeepBut.trans (by repeat (first | (with_reducible first | exact HK.out | apply KeepBut.set_ | apply keep_drewN | apply keep_drew | apply keep_alloc) | exact HK.out)) (KeepBut.of_below hb g none) (.inl rfl)); replace HB := zA (below_step (by repeat (first | (with_reducible first | exact HB.out | apply below_alloc | apply pw_below_drewN | apply below_drew1 | refine below_set ?_ (IsS109.ge HI0.out)) | exact HB.out)) hb); replace HI0 := zA (IsS109.below (by repeat (first | (with_reducible first | exact HI0.out | apply IsS109.alloc | apply IsS109.drewN | apply IsS109.drew | apply IsS109.set_1 | apply IsS109.set_2) | exact HI0.out)) hb); clear hb hbox hg) | ((with_reducible refine gate_callee (f := 122) rfl ?_); refine goesL_ (some 6) rfl rfl Try.func122 (by kernel_rfl) rfl #[.pointer (some ⟨g, 0, none⟩), .int .i64 5] rfl zM ?_; (with_reducible refine (spec_l1Below.calls g s0_0 s0_1 s0_2 5 t642 t643 t644 w0 _ ?side1 ?side2 A2.out).mono ?_); (case side1 => repeat (first | (with_reducible first | exact HI0.out | apply IsS109.alloc | apply IsS109.drewN | apply IsS109.drew | apply IsS109.set_1 | apply IsS109.set_2 | refine IsS109.far ?_ NB0_641.out _) | exact HI0.out)); (case side2 => repeat (first | (with_reducible first | exact HB.out | apply below_alloc | apply pw_below_drewN | apply below_drew1 | refine below_set ?_ (IsS109.ge HI0.out) | refine below_set ?_ GE641.out) | exact HB.out)); rintro e w25 ⟨rfl, hi, hb, hk⟩; refine ⟨_, rfl, ?_⟩; replace BK641 := zA (KeepBut.blk hk (g' := gb641) (o := .cells #[.int .i64 0, .int .i64 0] 23 (0, 0)) (zD BK641) NB641_0.out (by simp)); replace HK := zA (KeepBut.trans (by repeat (first | (with_reducible first | exact HK.out | apply KeepBut.set_ | apply keep_drewN | apply keep_drew | apply keep_alloc | refine keep_far ?_ GW641.out _) | exact HK.out)) hk (.inl rfl)); replace HB := zA (hb); replace HI0 := zA (hi); (try clear hb); (try clear hb2); (try clear hk); (try clear hi)) | ((with_reducible refine gate_callee (f := 138) rfl ?_); refine goesL_ (some 7) rfl rfl Try.func138 (by kernel_rfl) rfl #[.pointer (some ⟨g, 0, none⟩), .int .i64 t642] rfl zM ?_; (with_reducible refine (spec_l2Draw.calls k g s0_0 t643 t644 t642 t645 t646 t647 t648 w0 _ ?side1 ?side2 A3.out).mono ?_); (case side1 => repeat (first | (with_reducible first | exact HI0.out | apply IsS109.alloc | apply IsS109.drewN | apply IsS109.drew | apply IsS109.set_1 | apply IsS109.set_2 | refine IsS109.far ?_ NB0_641.out _) | exact HI0.out)); (case side2 => repeat (first | (with_reducible first | exact HB.out | apply below_alloc | apply pw_below_drewN | apply below_drew1 | refine below_set ?_ (IsS109.ge HI0.out) | refine below_set ?_ GE641.out) | exact HB.out)); rintro e w26 ⟨rfl, hi, hb, hk⟩; refine ⟨_, rfl, ?_⟩; replace BK641 := zA (KeepBut.blk hk (g' := gb641) (o := .cells #[.int .i64 0, .int .i64 0] 23 (0, 0)) (zD BK641) NB641_0.out (by simp)); replace HK := zA (KeepBut.trans (by repeat (first | (with_reducible first | exact HK.out | apply KeepBut.set_ | apply keep_drewN | apply keep_drew | apply keep_alloc | refine keep_far ?_ GW641.out _) | exact HK.out)) hk (.inl rfl)); replace HB := zA (hb); replace HI0 := zA (hi); (try clear hb); (try clear hb2); (try clear hk); (try clear hi)) | ((with_reducible refine gate_dst (N := 3) rfl ?_); refine box_event ?hg (N := 3) ?hd (cs := #[.int .i64 0, .int .i64 0]) (t := 23) ?hr ?_; (case hd => rfl); (case hg => rfl); (case hr => exact zH); intro gb649 hg w27 hbox hb; have BK649 := zA (hbox); have GW649 := zA ((by rw [hg]; exact (keep_size (w := w) (g := g) (row := none) (by repeat (first | (with_reducible first | exact HK.out | apply KeepBut.set_ | apply keep_drewN | apply keep_drew | apply keep_alloc | refine keep_far ?_ GW641.out _) | exact HK.out))) : w.heap.size ≤ gb649)); have GE649 := zA ((Nat.le_trans HW0.out (by rw [hg]; exact (keep_size (w := w) (g := g) (row := none) (by repeat (first | (with_reducible first | exact HK.out | apply KeepBut.set_ | apply keep_drewN | apply keep_drew | apply keep_alloc | refine keep_far ?_ GW641.out _) | exact HK.out))) : w.heap.size ≤ gb649) : w0.heap.size ≤ gb649)); have NB641_649 := zn BK641 hg; have NB649_641 := zo BK641 hg; have NB0_649 := zA ((by rw [hg]; exact Nat.ne_of_lt (IsS109.lt (show IsS109 w0 _ g s0_0 t647 t648 from by repeat (first | (with_reducible first | exact HI0.out | apply IsS109.alloc | apply IsS109.drewN | apply IsS109.drew | apply IsS109.set_1 | apply IsS109.set_2 | refine IsS109.far ?_ NB0_641.out _) | exact HI0.out))) : g ≠ gb649)); have NB649_0 := zA ((by rw [hg]; exact Nat.ne_of_gt (IsS109.lt (show IsS109 w0 _ g s0_0 t647 t648 from by repeat (first | (with_reducible first | exact HI0.out | apply IsS109.alloc | apply IsS109.drewN | apply IsS109.drew | apply IsS109.set_1 | apply IsS109.set_2 | refine IsS109.far ?_ NB0_641.out _) | exact HI0.out))) : gb649 ≠ g)); replace BK641 := zb BK641 hb; replace HK := zA (KeepBut.trans (by repeat (first | (with_reducible first | exact HK.out | apply KeepBut.set_ | apply keep_drewN | apply keep_drew | apply keep_alloc | refine keep_far ?_ GW641.out _) | exact HK.out)) (KeepBut.of_below hb g none) (.inl rfl)); replace HB := zA (below_step (by repeat (first | (with_reducible first | exact HB.out | apply below_alloc | apply pw_below_drewN | apply below_drew1 | refine below_set ?_ (IsS109.ge HI0.out) | refine below_set ?_ GE641.out) | exact HB.out)) hb); replace HI0 := zA (IsS109.below (by repeat (first | (with_reducible first | exact HI0.out | apply IsS109.alloc | apply IsS109.drewN | apply IsS109.drew | apply IsS109.set_1 | apply IsS109.set_2 | refine IsS109.far ?_ NB0_641.out _) | exact HI0.out)) hb); clear hb hbox hg; have hnb28 := NB649_641.out; have hnc28 := NB641_649.out; have hnb29 := NB649_0.out; have hnc29 := NB0_649.out; have hcz30_0 := zc0 BK649; have hcz30_1 := zc1 BK649; have hfz30_0 := blk_frozen BK649.out 0; have hfz30_1 := blk_frozen BK649.out 1) | ((with_reducible refine gate_callee (f := 122) rfl ?_); refine goesL_ (some 9) rfl rfl Try.func122 (by kernel_rfl) rfl #[.pointer (some ⟨g, 0, none⟩), .int .i64 14] rfl zM ?_; (with_reducible refine (spec_l1Below.calls g s0_0 t647 t648 14 t650 t651 t652 w0 _ ?side1 ?side2 A4.out).mono ?_); (case side1 => repeat (first | (with_reducible first | exact HI0.out | apply IsS109.alloc | apply IsS109.drewN | apply IsS109.drew | apply IsS109.set_1 | apply IsS109.set_2 | refine IsS109.far ?_ NB0_641.out _ | refine IsS109.far ?_ NB0_649.out _) | exact HI0.out)); (case side2 => repeat (first | (with_reducible first | exact HB.out | apply below_alloc | apply pw_below_drewN | apply below_drew1 | refine below_set ?_ (IsS109.ge HI0.out) | refine below_set ?_ GE641.out | refine below_set ?_ GE649.out) | exact HB.out)); rintro e w31 ⟨rfl, hi, hb, hk⟩; refine ⟨_, rfl, ?_⟩; replace BK641 := zA (KeepBut.blk hk (g' := gb641) (o := .cells #[.int .i64 0, .int .i64 0] 23 (0, 0)) (zF BK641 NB641_649) NB641_0.out (by simp)); replace BK649 := zA (KeepBut.blk hk (g' := gb649) (o := .cells #[.int .i64 t645, .int .i64 t646] 23 (0, 0)) (zP BK649) NB649_0.out (by simp)); replace HK := zA (KeepBut.trans (by repeat (first | (with_reducible first | exact HK.out | apply KeepBut.set_ | apply keep_drewN | apply keep_drew | apply keep_alloc | refine keep_far ?_ GW641.out _ | refine keep_far ?_ GW649.out _) | exact HK.out)) hk (.inl rfl)); replace HB := zA (hb); replace HI0 := zA (hi); (try clear hb); (try clear hb2); (try clear hk); (try clear hi)) | ((with_reducible refine gate_dst (N := 19) rfl ?_); refine Kd.R_lit (Kd.int .i64) _ 3 ?hg (N := 19) ?hd (xs := ([(-1), 0, 1, 65536, 9223372036854775807] : List Int)) (inner := [.int .i64 (-1), .int .i64 0, .int .i64 1, .int .i64 65536, .int .i64 9223372036854775807]) (ok := fun _ => True) (okp := fun _ => True) ?hr ?hp (fun _ hk => hk) trivial (Below.refl _ _) (Nat.le_refl _) (by simp) ?_; (case hd => rfl); (case hg => rfl); (case hr => exact zH); (case hp => exact (Reps.one (show Kd.M (Kd.int .i64) _ _ _ (-1) [.int .i64 (-1)] from rfl) (Reps.one (show Kd.M (Kd.int .i64) _ _ _ 0 [.int .i64 0] from rfl) (Reps.one (show Kd.M (Kd.int .i64) _ _ _ 1 [.int .i64 1] from rfl) (Reps.one (show Kd.M (Kd.int .i64) _ _ _ 65536 [.int .i64 65536] from rfl) (Reps.one (show Kd.M (Kd.int .i64) _ _ _ 9223372036854775807 [.int .i64 9223372036854775807] from rfl) (Reps.none _ _))))))); intro v660 w32 ho33 hb hg_ hnew_; clear hg_ hnew_; (first | rw [← Ny659.out] at ho33 | (simp only [Int.reduceToNat] at ho33; rw [← Ny659.out] at ho33)); have HO661 := zA (Kd.R_lower ho33 (keep_size (w := w) (g := g) (row := none) (by repeat (first | (with_reducible first | exact HK.out | apply KeepBut.set_ | apply keep_drewN | apply keep_drew | apply keep_alloc | refine keep_far ?_ GW641.out _ | refine keep_far ?_ GW649.out _) | exact HK.out)))); replace BK641 := zb BK641 hb; replace BK649 := zb BK649 hb; replace HK := zA (KeepBut.trans (by repeat (first | (with_reducible first | exact HK.out | apply KeepBut.set_ | apply keep_drewN | apply keep_drew | apply keep_alloc | refine keep_far ?_ GW641.out _ | refine keep_far ?_ GW649.out _) | exact HK.out)) (KeepBut.of_below hb g none) (.inl rfl)); replace HB := zA (below_step (by repeat (first | (with_reducible first | exact HB.out | apply below_alloc | apply pw_below_drewN | apply below_drew1 | refine below_set ?_ (IsS109.ge HI0.out) | refine below_set ?_ GE641.out | refine below_set ?_ GE649.out) | exact HB.out)) hb); replace HI0 := zA (IsS109.below (by repeat (first | (with_reducible first | exact HI0.out | apply IsS109.alloc | apply IsS109.drewN | apply IsS109.drew | apply IsS109.set_1 | apply IsS109.set_2 | refine IsS109.far ?_ NB0_641.out _ | refine IsS109.far ?_ NB0_649.out _) | exact HI0.out)) hb); clear hb ho33; obtain ⟨Ao34, co34, eo34⟩ := Kd.R_slice HO661.out; subst eo34) | ((with_reducible refine gate_callee (f := 124) rfl ?_); refine goesL_ (some 20) rfl rfl Try.func124 (by kernel_rfl) rfl #[.pointer (some ⟨g, 0, none⟩), .slice Ao34 y659.length co34] rfl zM ?_; (with_reducible refine (spec_l1PickInt.calls g s0_0 t651 t652 _ _ y659 t662 t663 t664 w0 _ ?side1 ?side2 ?side3 ?side4 ?side5 A23.out).mono ?_); (case side1 => repeat (first | (with_reducible first | exact HI0.out | apply IsS109.alloc | apply IsS109.drewN | apply IsS109.drew | apply IsS109.set_1 | apply IsS109.set_2 | refine IsS109.far ?_ NB0_641.out _ | refine IsS109.far ?_ NB0_649.out _) | exact HI0.out)); (case side2 => repeat (first | (with_reducible first | exact HB.out | apply below_alloc | apply pw_below_drewN | apply below_drew1 | refine below_set ?_ (IsS109.ge HI0.out) | refine below_set ?_ GE641.out | refine below_set ?_ GE649.out) | exact HB.out)); (case side3 => repeat (first | exact (Kd.R_reads' HO661.out).2.2 | (with_reducible refine Kd.C_alloc ?_ _) | (with_reducible refine Kd.C_drewN ?_ _) | (with_reducible refine Kd.C_drew ?_))); (case side4 => exact (Kd.R_reads' HO661.out).2.1); (case side5 => exact far_slice (IsS109.own_ne HI0.out HO661.out (by decide))); rintro e w35 ⟨rfl, hi, hb, hk⟩; refine ⟨_, rfl, ?_⟩; replace BK641 := zA (KeepBut.blk hk (g' := gb641) (o := .cells #[.int .i64 0, .int .i64 0] 23 (0, 0)) (zD BK641) NB641_0.out (by simp)); replace BK649 := zA (KeepBut.blk hk (g' := gb649) (o := .cells #[.int .i64 t645, .int .i64 t646] 23 (0, 0)) (zD BK649) NB649_0.out (by simp)); replace HO661 := zA (Kd.R_mono (Kd.R_keep (IsS109.apart (show IsS109 w0 _ g s0_0 t651 t652 from by repeat (first | (with_reducible first | exact HI0.out | apply IsS109.alloc | apply IsS109.drewN | apply IsS109.drew | apply IsS109.set_1 | apply IsS109.set_2 | refine IsS109.far ?_ NB0_641.out _ | refine IsS109.far ?_ NB0_649.out _) | exact HI0.out)) (zR HO661) (by decide)) hk (fun _ h => h.2)) (fun _ h => h.1)); replace HK := zA (KeepBut.trans (by repeat (first | (with_reducible first | exact HK.out | apply KeepBut.set_ | apply keep_drewN | apply keep_drew | apply keep_alloc | refine keep_far ?_ GW641.out _ | refine keep_far ?_ GW649.out _) | exact HK.out)) hk (.inl rfl)); replace HB := zA (hb); replace HI0 := zA (hi); (try clear hb); (try clear hb2); (try clear hk); (try clear hi); have hcz36_0 := zc0 BK649; have hcz36_1 := zc1 BK649; have hfz36_0 := blk_frozen BK649.out 0; have hfz36_1 := blk_frozen BK649.out 1; have hnb37 := NB641_0.out; have hnc37 := NB0_641.out; have hcz38_0 := zc0 BK641; have hcz38_1 := zc1 BK641; have hfz38_0 := blk_frozen BK641.out 0; have hfz38_1 := blk_frozen BK641.out 1))
   refine bodyPost_ret (results_cell_row rfl _ _ gb641 23 #[.int .i64 t645, .int .i64 t662] (0, 0) _ rfl (by (with_reducible repeat (first | refine blk_drewN ?_ _ | refine blk_drew ?_ | refine blk_alloc ?_ _)); refine blk_put (cs := #[.int .i64 t645, .int .i64 0]) ?_ 1 _ rfl; (with_reducible repeat (first | refine blk_drewN ?_ _ | refine blk_drew ?_ | refine blk_alloc ?_ _)); refine blk_put (cs := #[.int .i64 0, .int .i64 0]) ?_ 0 _ rfl; (with_reducible repeat (first | refine blk_drewN ?_ _ | refine blk_drew ?_ | refine blk_alloc ?_ _)); refine blk_far ?_ NB641_649.out _; (with_reducible repeat (first | refine blk_drewN ?_ _ | refine blk_drew ?_ | refine blk_alloc ?_ _)); exact BK641.out) Try.underlying23 rfl (by kernel_rfl)) rfl ?_
   exact ⟨by first | rfl | (simp [errW_none, errW_some] <;> rfl) | (simp [*, errW_none, errW_some] <;> rfl), by repeat (first | (with_reducible first | exact HI0.out | apply IsS109.alloc | apply IsS109.drewN | apply IsS109.drew | apply IsS109.set_1 | apply IsS109.set_2 | refine IsS109.far ?_ NB0_641.out _ | refine IsS109.far ?_ NB0_649.out _) | exact HI0.out), by repeat (first | (with_reducible first | exact HB.out | apply below_alloc | apply pw_below_drewN | apply below_drew1 | refine below_set ?_ (IsS109.ge HI0.out) | refine below_set ?_ GE641.out | refine below_set ?_ GE649.out) | exact HB.out), by repeat (first | (with_reducible first | exact HK.out | apply KeepBut.set_ | apply keep_drewN | apply keep_drew | apply keep_alloc | refine keep_far ?_ GW641.out _ | refine keep_far ?_ GW649.out _) | exact HK.out)⟩
  ·rw [if_neg c22] at H
   have c22b0 : (t650 == 1) = false := beq_eq_false_iff_ne.mpr c22
   have c22b1 : (t650 != 1) = true := bne_iff_ne.mpr c22
   simp only [Option.some.injEq, Prod.mk.injEq] at H
   obtain ⟨rfl, rfl, rfl, rfl⟩ := H
   go_enter Try.func121, Try.ntmps121
   go_wp2_with (first | ((with_reducible refine gate_dst (N := 2) rfl ?_); refine box_event ?hg (N := 2) ?hd (cs := #[.int .i64 0, .int .i64 0]) (t := 23) ?hr ?_; (case hd => rfl); (case hg => rfl); (case hr => exact zH); intro gb641 hg w39 hbox hb; have BK641 := zA (hbox); have GW641 := zA ((by rw [hg]; exact (keep_size (w := w) (g := g) (row := none) (by repeat (first | (with_reducible first | exact HK.out | apply KeepBut.set_ | apply keep_drewN | apply keep_drew | apply keep_alloc) | exact HK.out))) : w.heap.size ≤ gb641)); have GE641 := zA ((Nat.le_trans HW0.out (by rw [hg]; exact (keep_size (w := w) (g := g) (row := none) (by repeat (first | (with_reducible first | exact HK.out | apply KeepBut.set_ | apply keep_drewN | apply keep_drew | apply keep_alloc) | exact HK.out))) : w.heap.size ≤ gb641) : w0.heap.size ≤ gb641)); have NB0_641 := zA ((by rw [hg]; exact Nat.ne_of_lt (IsS109.lt (show IsS109 w0 _ g s0_0 s0_1 s0_2 from by repeat (first | (with_reducible first | exact HI0.out | apply IsS109.alloc | apply IsS109.drewN | apply IsS109.drew | apply IsS109.set_1 | apply IsS109.set_2) | exact HI0.out))) : g ≠ gb641)); have NB641_0 := zA ((by rw [hg]; exact Nat.ne_of_gt (IsS109.lt (show IsS109 w0 _ g s0_0 s0_1 s0_2 from by repeat (first | (with_reducible first | exact HI0.out | apply IsS109.alloc | apply IsS109.drewN | apply IsS109.drew | apply IsS109.set_1 | apply IsS109.set_2) | exact HI0.out))) : gb641 ≠ g)); replace HK := zA (KeepBut.trans (by repeat (first | (with_reducible first | exact HK.out | apply KeepBut.set_ | apply keep_drewN | apply keep_drew | apply keep_alloc) | exact HK.out)) (KeepBut.of_below hb g none) (.inl rfl)); replace HB := zA (below_step (by repeat (first | (with_reducible first | exact HB.out | apply below_alloc | apply pw_below_drewN | apply below_drew1 | refine below_set ?_ (IsS109.ge HI0.out)) | exact HB.out)) hb); replace HI0 := zA (IsS109.below (by repeat (first | (with_reducible first | exact HI0.out | apply IsS109.alloc | apply IsS109.drewN | apply IsS109.drew | apply IsS109.set_1 | apply IsS109.set_2) | exact HI0.out)) hb); clear hb hbox hg) | ((with_reducible refine gate_callee (f := 122) rfl ?_); refine goesL_ (some 6) rfl rfl Try.func122 (by kernel_rfl) rfl #[.pointer (some ⟨g, 0, none⟩), .int .i64 5] rfl zM ?_; (with_reducible refine (spec_l1Below.calls g s0_0 s0_1 s0_2 5 t642 t643 t644 w0 _ ?side1 ?side2 A2.out).mono ?_); (case side1 => repeat (first | (with_reducible first | exact HI0.out | apply IsS109.alloc | apply IsS109.drewN | apply IsS109.drew | apply IsS109.set_1 | apply IsS109.set_2 | refine IsS109.far ?_ NB0_641.out _) | exact HI0.out)); (case side2 => repeat (first | (with_reducible first | exact HB.out | apply below_alloc | apply pw_below_drewN | apply below_drew1 | refine below_set ?_ (IsS109.ge HI0.out) | refine below_set ?_ GE641.out) | exact HB.out)); rintro e w40 ⟨rfl, hi, hb, hk⟩; refine ⟨_, rfl, ?_⟩; replace BK641 := zA (KeepBut.blk hk (g' := gb641) (o := .cells #[.int .i64 0, .int .i64 0] 23 (0, 0)) (zD BK641) NB641_0.out (by simp)); replace HK := zA (KeepBut.trans (by repeat (first | (with_reducible first | exact HK.out | apply KeepBut.set_ | apply keep_drewN | apply keep_drew | apply keep_alloc | refine keep_far ?_ GW641.out _) | exact HK.out)) hk (.inl rfl)); replace HB := zA (hb); replace HI0 := zA (hi); (try clear hb); (try clear hb2); (try clear hk); (try clear hi)) | ((with_reducible refine gate_callee (f := 138) rfl ?_); refine goesL_ (some 7) rfl rfl Try.func138 (by kernel_rfl) rfl #[.pointer (some ⟨g, 0, none⟩), .int .i64 t642] rfl zM ?_; (with_reducible refine (spec_l2Draw.calls k g s0_0 t643 t644 t642 t645 t646 t647 t648 w0 _ ?side1 ?side2 A3.out).mono ?_); (case side1 => repeat (first | (with_reducible first | exact HI0.out | apply IsS109.alloc | apply IsS109.drewN | apply IsS109.drew | apply IsS109.set_1 | apply IsS109.set_2 | refine IsS109.far ?_ NB0_641.out _) | exact HI0.out)); (case side2 => repeat (first | (with_reducible first | exact HB.out | apply below_alloc | apply pw_below_drewN | apply below_drew1 | refine below_set ?_ (IsS109.ge HI0.out) | refine below_set ?_ GE641.out) | exact HB.out)); rintro e w41 ⟨rfl, hi, hb, hk⟩; refine ⟨_, rfl, ?_⟩; replace BK641 := zA (KeepBut.blk hk (g' := gb641) (o := .cells #[.int .i64 0, .int .i64 0] 23 (0, 0)) (zD BK641) NB641_0.out (by simp)); replace HK := zA (KeepBut.trans (by repeat (first | (with_reducible first | exact HK.out | apply KeepBut.set_ | apply keep_drewN | apply keep_drew | apply keep_alloc | refine keep_far ?_ GW641.out _) | exact HK.out)) hk (.inl rfl)); replace HB := zA (hb); replace HI0 := zA (hi); (try clear hb); (try clear hb2); (try clear hk); (try clear hi)) | ((with_reducible refine gate_dst (N := 3) rfl ?_); refine box_event ?hg (N := 3) ?hd (cs := #[.int .i64 0, .int .i64 0]) (t := 23) ?hr ?_; (case hd => rfl); (case hg => rfl); (case hr => exact zH); intro gb649 hg w42 hbox hb; have BK649 := zA (hbox); have GW649 := zA ((by rw [hg]; exact (keep_size (w := w) (g := g) (row := none) (by repeat (first | (with_reducible first | exact HK.out | apply KeepBut.set_ | apply keep_drewN | apply keep_drew | apply keep_alloc | refine keep_far ?_ GW641.out _) | exact HK.out))) : w.heap.size ≤ gb649)); have GE649 := zA ((Nat.le_trans HW0.out (by rw [hg]; exact (keep_size (w := w) (g := g) (row := none) (by repeat (first | (with_reducible first | exact HK.out | apply KeepBut.set_ | apply keep_drewN | apply keep_drew | apply keep_alloc | refine keep_far ?_ GW641.out _) | exact HK.out))) : w.heap.size ≤ gb649) : w0.heap.size ≤ gb649)); have NB641_649 := zn BK641 hg; have NB649_641 := zo BK641 hg; have NB0_649 := zA ((by rw [hg]; exact Nat.ne_of_lt (IsS109.lt (show IsS109 w0 _ g s0_0 t647 t648 from by repeat (first | (with_reducible first | exact HI0.out | apply IsS109.alloc | apply IsS109.drewN | apply IsS109.drew | apply IsS109.set_1 | apply IsS109.set_2 | refine IsS109.far ?_ NB0_641.out _) | exact HI0.out))) : g ≠ gb649)); have NB649_0 := zA ((by rw [hg]; exact Nat.ne_of_gt (IsS109.lt (show IsS109 w0 _ g s0_0 t647 t648 from by repeat (first | (with_reducible first | exact HI0.out | apply IsS109.alloc | apply IsS109.drewN | apply IsS109.drew | apply IsS109.set_1 | apply IsS109.set_2 | refine IsS109.far ?_ NB0_641.out _) | exact HI0.out))) : gb649 ≠ g)); replace BK641 := zb BK641 hb; replace HK := zA (KeepBut.trans (by repeat (first | (with_reducible first | exact HK.out | apply KeepBut.set_ | apply keep_drewN | apply keep_drew | apply keep_alloc | refine keep_far ?_ GW641.out _) | exact HK.out)) (KeepBut.of_below hb g none) (.inl rfl)); replace HB := zA (below_step (by repeat (first | (with_reducible first | exact HB.out | apply below_alloc | apply pw_below_drewN | apply below_drew1 | refine below_set ?_ (IsS109.ge HI0.out) | refine below_set ?_ GE641.out) | exact HB.out)) hb); replace HI0 := zA (IsS109.below (by repeat (first | (with_reducible first | exact HI0.out | apply IsS109.alloc | apply IsS109.drewN | apply IsS109.drew | apply IsS109.set_1 | apply IsS109.set_2 | refine IsS109.far ?_ NB0_641.out _) | exact HI0.out)) hb); clear hb hbox hg; have hnb43 := NB649_641.out; have hnc43 := NB641_649.out; have hnb44 := NB649_0.out; have hnc44 := NB0_649.out; have hcz45_0 := zc0 BK649; have hcz45_1 := zc1 BK649; have hfz45_0 := blk_frozen BK649.out 0; have hfz45_1 := blk_frozen BK649.out 1) | ((with_reducible refine gate_callee (f := 122) rfl ?_); refine goesL_ (some 9) rfl rfl Try.func122 (by kernel_rfl) rfl #[.pointer (some ⟨g, 0, none⟩), .int .i64 14] rfl zM ?_; (with_reducible refine (spec_l1Below.calls g s0_0 t647 t648 14 t650 t651 t652 w0 _ ?side1 ?side2 A4.out).mono ?_); (case side1 => repeat (first | (with_reducible first | exact HI0.out | apply IsS109.alloc | apply IsS109.drewN | apply IsS109.drew | apply IsS109.set_1 | apply IsS109.set_2 | refine IsS109.far ?_ NB0_641.out _ | refine IsS109.far ?_ NB0_649.out _) | exact HI0.out)); (case side2 => repeat (first | (with_reducible first | exact HB.out | apply below_alloc | apply pw_below_drewN | apply below_drew1 | refine below_set ?_ (IsS109.ge HI0.out) | refine below_set ?_ GE641.out | refine below_set ?_ GE649.out) | exact HB.out)); rintro e w46 ⟨rfl, hi, hb, hk⟩; refine ⟨_, rfl, ?_⟩; replace BK641 := zA (KeepBut.blk hk (g' := gb641) (o := .cells #[.int .i64 0, .int .i64 0] 23 (0, 0)) (zF BK641 NB641_649) NB641_0.out (by simp)); replace BK649 := zA (KeepBut.blk hk (g' := gb649) (o := .cells #[.int .i64 t645, .int .i64 t646] 23 (0, 0)) (zP BK649) NB649_0.out (by simp)); replace HK := zA (KeepBut.trans (by repeat (first | (with_reducible first | exact HK.out | apply KeepBut.set_ | apply keep_drewN | apply keep_drew | apply keep_alloc | refine keep_far ?_ GW641.out _ | refine keep_far ?_ GW649.out _) | exact HK.out)) hk (.inl rfl)); replace HB := zA (hb); replace HI0 := zA (hi); (try clear hb); (try clear hb2); (try clear hk); (try clear hi); have hcz47_0 := zc0 BK649; have hcz47_1 := zc1 BK649; have hfz47_0 := blk_frozen BK649.out 0; have hfz47_1 := blk_frozen BK649.out 1; have hnb48 := NB641_0.out; have hnc48 := NB0_641.out; have hcz49_0 := zc0 BK641; have hcz49_1 := zc1 BK641; have hfz49_0 := blk_frozen BK641.out 0; have hfz49_1 := blk_frozen BK641.out 1))
   refine bodyPost_ret (results_cell_row rfl _ _ gb641 23 #[.int .i64 t645, .int .i64 t646] (0, 0) _ rfl (zP BK641) Try.underlying23 rfl (by kernel_rfl)) rfl ?_
   exact ⟨by first | rfl | (simp [errW_none, errW_some] <;> rfl) | (simp [*, errW_none, errW_some] <;> rfl), by repeat (first | (with_reducible first | exact HI0.out | apply IsS109.alloc | apply IsS109.drewN | apply IsS109.drew | apply IsS109.set_1 | apply IsS109.set_2 | refine IsS109.far ?_ NB0_641.out _ | refine IsS109.far ?_ NB0_649.out _) | exact HI0.out), by repeat (first | (with_reducible first | exact HB.out | apply below_alloc | apply pw_below_drewN | apply below_drew1 | refine below_set ?_ (IsS109.ge HI0.out) | refine below_set ?_ GE641.out | refine below_set ?_ GE649.out) | exact HB.out), by repeat (first | (with_reducible first | exact HK.out | apply KeepBut.set_ | apply keep_drewN | apply keep_drew | apply keep_alloc | refine keep_far ?_ GW641.out _ | refine keep_far ?_ GW649.out _) | exact HK.out)⟩

/-! ### spec_l3Var: function 118 -/
def spec_l3Var.f (k : Nat) (l0 : List Int) : Option (Int × Int × Int) := (spec_l1New.f k l0).bind fun bt666 => ((spec_l2Any.f k bt666.1 bt666.2.1 bt666.2.2).bind fun bt670 => ((spec_l1Below.f bt666.1 bt670.2.2.1 bt670.2.2.2 7).bind fun bt675 => (some (bt670.1, bt670.2.1, wrap64 (bt675.1 - 1)))))
theorem spec_l3Var.mono : ∀ a0 k, LeO (spec_l3Var.f k a0) (spec_l3Var.f (k + 1) a0) := by
 intro a0 k
 unfold spec_l3Var.f
 repeat' first
   | (with_reducible exact spec_l1New.mono _ _)
   | (with_reducible exact spec_l2Any.mono _ _ _ _)
   | (with_reducible exact LeO.refl _)
   | (with_reducible exact LeO.none _)
   | (with_reducible refine LeO.ite ?_ ?_)
   | (with_reducible refine LeO.bind ?_ (fun _ => ?_))
   | exact spec_l1New.mono _ _
   | exact spec_l2Any.mono _ _ _ _
   | exact LeO.none _
   | refine LeO.ite ?_ ?_
   | refine LeO.bind ?_ (fun _ => ?_)
set_option maxHeartbeats 8000000 in
set_option maxRecDepth 100000 in
theorem spec_l3Var.calls (k : Nat) (A0 : Option Addr) (c0 : Nat) (l0 : List Int) (r1 : Int) (r2 : Int) (r3 : Int) (w : World) (hr0 : Kd.C (Kd.int .u8) w A0 l0.length l0) (hc0 : l0.length ≤ c0) (h : spec_l3Var.f k l0 = some (r1, r2, r3)) :
  Calls Try.prog 118 #[.slice A0 l0.length c0] w fun e w' => e = .returned (.tuple #[.agg #[.int .i64 r1, .int .i64 r2], .int .i64 r3]) ∧ Below w.heap.size w w' := by
 have hu23 := Try.underlying23
 have HR0 := zA hr0
 have HC0 := zA hc0
 clear hr0 hc0
 have HB := zA (Below.refl w.heap.size w)
 have H := h
 unfold spec_l3Var.f at H
 clear h
 replace H := Option.bind_eq_some_iff.mp H
 obtain ⟨⟨t666, t667, t668⟩, A20, H⟩ := H
 replace H : ((spec_l2Any.f k t666 t667 t668).bind fun bt670 => ((spec_l1Below.f t666 bt670.2.2.1 bt670.2.2.2 7).bind fun bt675 => (some (bt670.1, bt670.2.1, wrap64 (bt675.1 - 1))))) = some (r1, r2, r3) := H
 have A2 := zA A20
 clear A20
 replace H := Option.bind_eq_some_iff.mp H
 obtain ⟨⟨t670, t671, t672, t673⟩, A30, H⟩ := H
 replace H : ((spec_l1Below.f t666 t672 t673 7).bind fun bt675 => (some (t670, t671, wrap64 (bt675.1 - 1)))) = some (r1, r2, r3) := H
 have A3 := zA A30
 clear A30
 replace H := Option.bind_eq_some_iff.mp H
 obtain ⟨⟨t675, t676, t677⟩, A40, H⟩ := H
 replace H : (some (t670, t671, wrap64 (t675 - 1))) = some (r1, r2, r3) := H
 have A4 := zA A40
 clear A40
 simp only [Option.some.injEq, Prod.mk.injEq] at H
 obtain ⟨rfl, rfl, rfl⟩ := H
 go_enter Try.func118, Try.ntmps118
 try go_wp2_with (first | ((with_reducible refine gate_dst (N := 2) rfl ?_); refine box_event ?hg (N := 2) ?hd (cs := #[.int .i64 0, .int .i64 0]) (t := 23) ?hr ?_; (case hd => rfl); (case hg => rfl); (case hr => exact zH); intro gb665 hg w5 hbox hb; have BK665 := zA (hbox); have GW665 := zg HB hg; have GE665 := zg HB hg; replace HB := zA (below_step (zB HB) hb); clear hb hbox hg) | ((with_reducible refine gate_callee (f := 120) rfl ?_); refine goesL_ (some 7) rfl rfl Try.func120 (by kernel_rfl) rfl #[.slice A0 l0.length c0] rfl zM ?_; (with_reducible refine (spec_l1New.calls k _ _ l0 t666 t667 t668 w _ ?side1 ?side2 ?side3 A2.out).mono ?_); (case side1 => repeat (first | (with_reducible first | exact HB.out | apply below_alloc | apply pw_below_drewN | apply below_drew1 | refine below_set ?_ GE665.out) | exact HB.out)); (case side2 => exact HR0.out); (case side3 => exact HC0.out); rintro e w6 ⟨g669, rfl, hi, hb, hb2⟩; refine ⟨_, rfl, ?_⟩; have HI669 := zA (hi); have NB669_665 := zA (IsS109.ne_blk hi (blk_below (g := gb665) (o := .cells #[.int .i64 0, .int .i64 0] 23 (0, 0)) (zD BK665) hb2) (by decide)); have NB665_669 := zA (Ne.symm (IsS109.ne_blk hi (blk_below (g := gb665) (o := .cells #[.int .i64 0, .int .i64 0] 23 (0, 0)) (zD BK665) hb2) (by decide))); replace BK665 := zb BK665 hb2; replace HB := zA (hb); (try clear hb); (try clear hb2); (try clear hk); (try clear hi)) | ((with_reducible refine gate_callee (f := 121) rfl ?_); refine goesL_ (some 9) rfl rfl Try.func121 (by kernel_rfl) rfl #[.pointer (some ⟨g669, 0, none⟩)] rfl zM ?_; (with_reducible refine (spec_l2Any.calls k g669 t666 t667 t668 t670 t671 t672 t673 w _ ?side1 ?side2 A3.out).mono ?_); (case side1 => repeat (first | (with_reducible first | exact HI669.out | apply IsS109.alloc | apply IsS109.drewN | apply IsS109.drew | apply IsS109.set_1 | apply IsS109.set_2 | refine IsS109.far ?_ NB669_665.out _) | exact HI669.out)); (case side2 => repeat (first | (with_reducible first | exact HB.out | apply below_alloc | apply pw_below_drewN | apply below_drew1 | refine below_set ?_ (IsS109.ge HI669.out) | refine below_set ?_ GE665.out) | exact HB.out)); rintro e w7 ⟨rfl, hi, hb, hk⟩; refine ⟨_, rfl, ?_⟩; replace BK665 := zA (KeepBut.blk hk (g' := gb665) (o := .cells #[.int .i64 0, .int .i64 0] 23 (0, 0)) (zD BK665) NB665_669.out (by simp)); replace HB := zA (hb); replace HI669 := zA (hi); (try clear hb); (try clear hb2); (try clear hk); (try clear hi)) | ((with_reducible refine gate_dst (N := 5) rfl ?_); refine box_event ?hg (N := 5) ?hd (cs := #[.int .i64 0, .int .i64 0]) (t := 23) ?hr ?_; (case hd => rfl); (case hg => rfl); (case hr => exact zH); intro gb674 hg w8 hbox hb; have BK674 := zA (hbox); have GW674 := zA ((by rw [hg]; exact (below_size (by repeat (first | (with_reducible first | exact HB.out | apply below_alloc | apply pw_below_drewN | apply below_drew1 | refine below_set ?_ (IsS109.ge HI669.out) | refine below_set ?_ GE665.out) | exact HB.out))) : w.heap.size ≤ gb674)); have GE674 := zA ((by rw [hg]; exact (below_size (by repeat (first | (with_reducible first | exact HB.out | apply below_alloc | apply pw_below_drewN | apply below_drew1 | refine below_set ?_ (IsS109.ge HI669.out) | refine below_set ?_ GE665.out) | exact HB.out))) : w.heap.size ≤ gb674)); have NB665_674 := zn BK665 hg; have NB674_665 := zo BK665 hg; have NB669_674 := zA ((by rw [hg]; exact Nat.ne_of_lt (IsS109.lt (show IsS109 w _ g669 t666 t672 t673 from by repeat (first | (with_reducible first | exact HI669.out | apply IsS109.alloc | apply IsS109.drewN | apply IsS109.drew | apply IsS109.set_1 | apply IsS109.set_2 | refine IsS109.far ?_ NB669_665.out _) | exact HI669.out))) : g669 ≠ gb674)); have NB674_669 := zA ((by rw [hg]; exact Nat.ne_of_gt (IsS109.lt (show IsS109 w _ g669 t666 t672 t673 from by repeat (first | (with_reducible first | exact HI669.out | apply IsS109.alloc | apply IsS109.drewN | apply IsS109.drew | apply IsS109.set_1 | apply IsS109.set_2 | refine IsS109.far ?_ NB669_665.out _) | exact HI669.out))) : gb674 ≠ g669)); replace BK665 := zb BK665 hb; replace HB := zA (below_step (by repeat (first | (with_reducible first | exact HB.out | apply below_alloc | apply pw_below_drewN | apply below_drew1 | refine below_set ?_ (IsS109.ge HI669.out) | refine below_set ?_ GE665.out) | exact HB.out)) hb); replace HI669 := zA (IsS109.below (by repeat (first | (with_reducible first | exact HI669.out | apply IsS109.alloc | apply IsS109.drewN | apply IsS109.drew | apply IsS109.set_1 | apply IsS109.set_2 | refine IsS109.far ?_ NB669_665.out _) | exact HI669.out)) hb); clear hb hbox hg; have hnb9 := NB674_665.out; have hnc9 := NB665_674.out; have hnb10 := NB674_669.out; have hnc10 := NB669_674.out; have hcz11_0 := zc0 BK674; have hcz11_1 := zc1 BK674; have hfz11_0 := blk_frozen BK674.out 0; have hfz11_1 := blk_frozen BK674.out 1))
 have n0_ : Aside0 (((w8.setCell ⟨gb674, 0, none⟩ (.int .i64 t670)).setCell ⟨gb674, 1, none⟩ (.int .i64 t671)).heap[gb665]? = some (.cells #[.int .i64 0, .int .i64 0] 23 (0, 0))) := ⟨zF BK665 NB665_674⟩
 have n1_ : Aside0 (((w8.setCell ⟨gb674, 0, none⟩ (.int .i64 t670)).setCell ⟨gb674, 1, none⟩ (.int .i64 t671)).heap[gb674]? = some (.cells #[.int .i64 t670, .int .i64 t671] 23 (0, 0))) := ⟨zP BK674⟩
 have n2_ : Aside0 (IsS109 w ((w8.setCell ⟨gb674, 0, none⟩ (.int .i64 t670)).setCell ⟨gb674, 1, none⟩ (.int .i64 t671)) g669 t666 t672 t673) := ⟨by repeat (first | (with_reducible first | exact HI669.out | apply IsS109.alloc | apply IsS109.drewN | apply IsS109.drew | apply IsS109.set_1 | apply IsS109.set_2 | refine IsS109.far ?_ NB669_665.out _ | refine IsS109.far ?_ NB669_674.out _) | exact HI669.out)⟩
 have n3_ : Aside0 (Below w.heap.size w ((w8.setCell ⟨gb674, 0, none⟩ (.int .i64 t670)).setCell ⟨gb674, 1, none⟩ (.int .i64 t671))) := ⟨by repeat (first | (with_reducible first | exact HB.out | apply below_alloc | apply pw_below_drewN | apply below_drew1 | refine below_set ?_ (IsS109.ge HI669.out) | refine below_set ?_ GE665.out | refine below_set ?_ GE674.out) | exact HB.out)⟩
 (try clear BK665)
 (try clear BK674)
 (try clear HI669)
 (try clear HB)
 generalize ((w8.setCell ⟨gb674, 0, none⟩ (.int .i64 t670)).setCell ⟨gb674, 1, none⟩ (.int .i64 t671)) = w12 at n0_ n1_ n2_ n3_ ⊢
 have BK665 := n0_
 have BK674 := n1_
 have HI669 := n2_
 have HB := n3_
 clear n0_ n1_ n2_ n3_
 have n0_ := zA (blk_drew BK665.out)
 have n1_ := zA (blk_drew BK674.out)
 have n2_ := zA (IsS109.drew HI669.out)
 have n3_ := zA (below_drew1 HB.out)
 clear BK665
 clear BK674
 clear HI669
 clear HB
 have BK665 := n0_
 have BK674 := n1_
 have HI669 := n2_
 have HB := n3_
 clear n0_ n1_ n2_ n3_
 refine start_ (n := 6) (S := fun w' => w'.cell? ⟨gb674, 0, none⟩ = some (.int .i64 t670) ∧ w'.cell? ⟨gb674, 1, none⟩ = some (.int .i64 t671)) (ds := []) #[false, false, false, false, false, false] (by kernel_rfl) rfl rfl ⟨(blk_cell BK674.out 0).trans rfl, (blk_cell BK674.out 1).trans rfl⟩ (fun hHeld => ?_)
 generalize w12.drew = w13 at BK665 BK674 HI669 HB hHeld ⊢
 refine pure_ (i := 1) (N := some 11) (v := ?_) (a' := ?_) #[false, true, false, false, false, false] rfl rfl (by kernel_rfl) (fun _ _ _ h => h) (Or.inl ⟨by rfl, ?_⟩) ?_ ?_
 rotate_left
 ·intro w'
  go_simp
  with_reducible rfl
 rotate_left
 ·simp only [Act.put, List.setIfInBounds_toArray, List.set_cons_zero, List.set_cons_succ, i64_w, i32_w]
  rfl
 refine take_ (i := 0) (N := some 10) (v := ?_) (a' := ?_) #[true, true, false, false, false, false] rfl rfl (by kernel_rfl) (fun _ _ _ h => h) (Or.inl ⟨by rfl, ?_⟩) hHeld ?_ ?_
 rotate_left
 ·rintro w' ⟨s0, s1⟩
  go_simp
  with_reducible rfl
 rotate_left
 ·simp only [Act.put, List.setIfInBounds_toArray, List.set_cons_zero, List.set_cons_succ, i64_w, i32_w]
  rfl
 refine one_ (i := 2) (N := some 12) #[true, true, true, false, false, false] rfl rfl (by kernel_rfl) (by decide) (fun K hK => ?_)
 refine goes_ Try.func122 (by kernel_rfl) rfl #[.pointer (some ⟨g669, 0, none⟩), .int .i64 7] (by rfl) rfl rfl zM ?_
 with_reducible refine (spec_l1Below.calls g669 t666 t672 t673 7 t675 t676 t677 w _ ?side1 ?side2 A4.out).mono ?_
 (case side1 => repeat (first | (with_reducible first | exact HI669.out | apply IsS109.alloc | apply IsS109.drewN | apply IsS109.drew | apply IsS109.set_1 | apply IsS109.set_2 | refine IsS109.far ?_ NB669_665.out _ | refine IsS109.far ?_ NB669_674.out _) | exact HI669.out))
 (case side2 => repeat (first | (with_reducible first | exact HB.out | apply below_alloc | apply pw_below_drewN | apply below_drew1 | refine below_set ?_ (IsS109.ge HI669.out) | refine below_set ?_ GE665.out | refine below_set ?_ GE674.out) | exact HB.out))
 rintro e w14 ⟨rfl, hi, hb, hk⟩
 refine ⟨_, rfl, ?_⟩
 have n0_ := zA (KeepBut.blk hk (g' := gb665) (o := .cells #[.int .i64 0, .int .i64 0] 23 (0, 0)) (zD BK665) NB665_669.out (by simp))
 have n1_ := zA (KeepBut.blk hk (g' := gb674) (o := .cells #[.int .i64 t670, .int .i64 t671] 23 (0, 0)) (zD BK674) NB674_669.out (by simp))
 have n2_ := zA (hb)
 have n3_ := zA (hi)
 clear BK665
 clear BK674
 clear HB
 clear HI669
 have BK665 := n0_
 have BK674 := n1_
 have HB := n2_
 have HI669 := n3_
 clear n0_ n1_ n2_ n3_
 (try clear hb)
 (try clear hb2)
 (try clear hk)
 (try clear hi)
 refine hK.out _ _ ⟨(blk_cell BK674.out 0).trans rfl, (blk_cell BK674.out 1).trans rfl⟩ (fun hHeld => ?_)
 clear hK K
 refine norm_ (a' := ?_) ?_ ?_
 rotate_left
 ·show Act.put _ (some 12) _ = _
  simp only [Act.put, List.setIfInBounds_toArray, List.set_cons_zero, List.set_cons_succ, i64_w, i32_w]
  rfl
 refine pure_ (i := 3) (N := some 13) (v := ?_) (a' := ?_) #[true, true, true, true, false, false] rfl rfl (by kernel_rfl) (fun _ _ _ h => h) (Or.inl ⟨by rfl, ?_⟩) ?_ ?_
 rotate_left
 ·intro w'
  go_simp
  with_reducible rfl
 rotate_left
 ·simp only [Act.put, List.setIfInBounds_toArray, List.set_cons_zero, List.set_cons_succ, i64_w, i32_w]
  rfl
 refine one_ (i := 4) (N := none) #[true, true, true, true, true, false] rfl rfl (by kernel_rfl) (by decide) (fun K hK => ?_)
 have hs15 : w14.cell? ⟨gb665, 0, none⟩ = some (.int .i64 0) := (blk_cell BK665.out 0).trans rfl
 have hfs15 := blk_frozen BK665.out 0
 have hns15_1 := NB674_665.out
 have hms15_1 := NB665_674.out
 have hs16 : w14.cell? ⟨gb665, 1, none⟩ = some (.int .i64 0) := (blk_cell BK665.out 1).trans rfl
 have hfs16 := blk_frozen BK665.out 1
 have hns16_1 := NB674_665.out
 have hms16_1 := NB665_674.out
 refine skip_ (w1 := ?_) (by rfl) rfl ?_ ?_
 rotate_left
 ·go_simp
  rfl
 refine hK.out _ _ ⟨((cell_far (p := ⟨gb665, _, none⟩) NB674_665.out _).trans (((cell_far (p := ⟨gb665, _, none⟩) NB674_665.out _).trans (hHeld.1)))), ((cell_far (p := ⟨gb665, _, none⟩) NB674_665.out _).trans (((cell_far (p := ⟨gb665, _, none⟩) NB674_665.out _).trans (hHeld.2))))⟩ (fun hHeld => ?_)
 clear hK K
 refine pure_ (i := 5) (N := some 3) (v := ?_) (a' := ?_) #[true, true, true, true, true, true] rfl rfl (by kernel_rfl) (fun _ _ _ h => h) (Or.inl ⟨by rfl, ?_⟩) ?_ ?_
 rotate_left
 ·intro w'
  go_simp
  with_reducible rfl
 rotate_left
 ·simp only [Act.put, List.setIfInBounds_toArray, List.set_cons_zero, List.set_cons_succ, i64_w, i32_w]
  rfl
 refine done_ (by kernel_rfl) ?_
 try go_wp2
 refine bodyPost_ret (results_ct rfl _ _ gb665 23 #[.int .i64 t670, .int .i64 t671] (0, 0) _ rfl (zP BK665) Try.underlying23 rfl (by kernel_rfl)) rfl ?_
 exact ⟨by first | rfl | (simp [errW_none, errW_some] <;> rfl) | (simp [*, errW_none, errW_some] <;> rfl), by repeat (first | (with_reducible first | exact HB.out | apply below_alloc | apply pw_below_drewN | apply below_drew1 | refine below_set ?_ (IsS109.ge HI669.out) | refine below_set ?_ GE665.out | refine below_set ?_ GE674.out) | exact HB.out)⟩

/-! ### spec_DrawRestrictTable: function 65 -/
def spec_DrawRestrictTable.f (k : Nat) (l0 : List Int) : Option (Int × Int × Int × Int) := (spec_l3Var.f k l0).bind fun bt679 => ((some (([0, 1, 0, 1, 2, (-1)] : List Int) : List Int)).bind fun y683 => (if 0 ≤ ((l0.length : Int) % 6) then (if ((l0.length : Int) % 6) < (y683.length : Int) then (some (bt679.1, bt679.2.1, bt679.2.2, rd y683 ((l0.length : Int) % 6))) else (none)) else (none)))
theorem spec_DrawRestrictTable.mono : ∀ a0 k, LeO (spec_DrawRestrictTable.f k a0) (spec_DrawRestrictTable.f (k + 1) a0) := by
 intro a0 k
 unfold spec_DrawRestrictTable.f
 repeat' first
   | (with_reducible exact spec_l3Var.mono _ _)
   | (with_reducible exact LeO.refl _)
   | (with_reducible exact LeO.none _)
   | (with_reducible refine LeO.ite ?_ ?_)
   | (with_reducible refine LeO.bind ?_ (fun _ => ?_))
   | exact spec_l3Var.mono _ _
   | exact LeO.none _
   | refine LeO.ite ?_ ?_
   | refine LeO.bind ?_ (fun _ => ?_)
def spec_DrawRestrictTable.T2 : Bool × List (List Nat × List Nat) := (true, [([], []), ([], []), ([], []), ([], []), ([3], [3]), ([4], [4]), ([2, 5], [2, 5]), ([6], [6]), ([0, 0], [0]), ([1, 8, 0, 1, 8], [1]), ([7, 9, 0, 1, 2, 3, 4, 5, 6, 7, 8, 9], [7])])
def spec_DrawRestrictTable.B2 : List Nat := [0, 0, 0, 0, 8, 24, 60, 124, 1, 259, 1023]
theorem spec_DrawRestrictTable.tab2 : rtab .any (opsOf Try.f65 2) = spec_DrawRestrictTable.T2 := by kernel_rfl
theorem spec_DrawRestrictTable.bits2 : waitsOk spec_DrawRestrictTable.T2.2 spec_DrawRestrictTable.B2 = true := by kernel_rfl
set_option maxHeartbeats 8000000 in
set_option maxRecDepth 100000 in
theorem spec_DrawRestrictTable.calls (k : Nat) (A0 : Option Addr) (c0 : Nat) (l0 : List Int) (r1 : Int) (r2 : Int) (r3 : Int) (r4 : Int) (w : World) (hr0 : Kd.C (Kd.int .u8) w A0 l0.length l0) (hc0 : l0.length ≤ c0) (h : spec_DrawRestrictTable.f k l0 = some (r1, r2, r3, r4)) :
  Calls Try.prog 65 #[.slice A0 l0.length c0] w fun e w' => e = .returned (.tuple #[.agg #[.int .i64 r1, .int .i64 r2], .int .i64 r3, .int .i64 r4]) ∧ Below w.heap.size w w' := by
 have hu23 := Try.underlying23
 have HR0 := zA hr0
 have HC0 := zA hc0
 clear hr0 hc0
 have HB := zA (Below.refl w.heap.size w)
 have H := h
 unfold spec_DrawRestrictTable.f at H
 clear h
 replace H := Option.bind_eq_some_iff.mp H
 obtain ⟨⟨t679, t680, t681⟩, A20, H⟩ := H
 replace H : ((some (([0, 1, 0, 1, 2, (-1)] : List Int) : List Int)).bind fun y683 => (if 0 ≤ ((l0.length : Int) % 6) then (if ((l0.length : Int) % 6) < (y683.length : Int) then (some (t679, t680, t681, rd y683 ((l0.length : Int) % 6))) else (none)) else (none))) = some (r1, r2, r3, r4) := H
 have A2 := zA A20
 clear A20
 obtain ⟨y683, hy683⟩ : ∃ y_ : List Int, y_ = (([0, 1, 0, 1, 2, (-1)] : List Int)) := ⟨_, rfl⟩
 replace H : (if 0 ≤ ((l0.length : Int) % 6) then (if ((l0.length : Int) % 6) < (y683.length : Int) then (some (t679, t680, t681, rd y683 ((l0.length : Int) % 6))) else (none)) else (none)) = some (r1, r2, r3, r4) := by first | (rw [hy683]; with_reducible exact H) | (have H2_ := (Option.bind_some _ _).symm.trans H; rw [hy683]; with_reducible exact H2_) | (have H2_ := (Option.bind_some _ _).symm.trans H; with_reducible exact H2_) | with_reducible exact H | (rw [hy683]; exact H) | exact H
 have Ny683 := zA hy683
 clear hy683
 obtain ⟨ji3, hji3⟩ : ∃ j_ : Int, ((l0.length : Int) % 6) = j_ := ⟨_, rfl⟩
 have hji3t : Int.tmod (l0.length : Int) 6 = ji3 := (Int.tmod_eq_emod_of_nonneg (by omega)).trans hji3
 replace H : (if 0 ≤ (ji3) then (if (ji3) < (y683.length : Int) then (some (t679, t680, t681, rd y683 (ji3))) else (none)) else (none)) = some (r1, r2, r3, r4) := by first | (rw [hji3] at H; exact H) | (simp only [hji3] at H ⊢; exact H)
 (try rw [hji3] at A2)
 by_cases c4 : 0 ≤ (ji3)
 ·rw [if_pos c4] at H
  have c4b0 : decide (0 ≤ (ji3)) = true := decide_eq_true c4
  clear c4
  by_cases c5 : (ji3) < (y683.length : Int)
  ·rw [if_pos c5] at H
   have c5b0 : decide ((ji3) < (y683.length : Int)) = true := decide_eq_true c5
   clear c5
   simp only [Option.some.injEq, Prod.mk.injEq] at H
   obtain ⟨rfl, rfl, rfl, rfl⟩ := H
   go_enter Try.func65, Try.ntmps65
   try go_wp2_with (first | ((with_reducible refine gate_dst (N := 2) rfl ?_); refine box_event ?hg (N := 2) ?hd (cs := #[.int .i64 0, .int .i64 0]) (t := 23) ?hr ?_; (case hd => rfl); (case hg => rfl); (case hr => exact zH); intro gb678 hg w6 hbox hb; have BK678 := zA (hbox); have GW678 := zg HB hg; have GE678 := zg HB hg; replace HB := zA (below_step (zB HB) hb); clear hb hbox hg) | ((with_reducible refine gate_callee (f := 118) rfl ?_); refine goesL_ (some 9) rfl rfl Try.func118 (by kernel_rfl) rfl #[.slice A0 l0.length c0] rfl zM ?_; (with_reducible refine (spec_l3Var.calls k _ _ l0 t679 t680 t681 _ ?side1 ?side2 A2.out).mono ?_); (case side1 => repeat (first | exact (Kd.C_below HR0.out HB.out) | (with_reducible refine Kd.C_alloc ?_ _) | (with_reducible refine Kd.C_drewN ?_ _) | (with_reducible refine Kd.C_drew ?_))); (case side2 => exact HC0.out); rintro e w7 ⟨rfl, hb⟩; refine ⟨_, rfl, ?_⟩; replace BK678 := zb BK678 hb; replace HB := zA (below_step (zB1 HB GE678) hb); (try clear hb); (try clear hb2); (try clear hk); (try clear hi)) | ((with_reducible refine gate_dst (N := 5) rfl ?_); refine box_event ?hg (N := 5) ?hd (cs := #[.int .i64 0, .int .i64 0]) (t := 23) ?hr ?_; (case hd => rfl); (case hg => rfl); (case hr => exact zH); intro gb682 hg w8 hbox hb; have BK682 := zA (hbox); have GW682 := zg1 HB GE678 hg; have GE682 := zg1 HB GE678 hg; have NB678_682 := zn BK678 hg; have NB682_678 := zo BK678 hg; replace BK678 := zb BK678 hb; replace HB := zA (below_step (zB1 HB GE678) hb); clear hb hbox hg; have hnb9 := NB682_678.out; have hnc9 := NB678_682.out; have hcz10_0 := zc0 BK682; have hcz10_1 := zc1 BK682; have hfz10_0 := blk_frozen BK682.out 0; have hfz10_1 := blk_frozen BK682.out 1))
   have pi686 : (0 ≤ ((ji3) : Int)) = True := eq_true (of_decide_eq_true (by first | (with_reducible assumption) | assumption))
   have qi686 : ((ji3) < (y683.length : Int)) = True := eq_true (of_decide_eq_true (by first | (with_reducible assumption) | assumption))
   have n0_ : Aside0 (((w8.setCell ⟨gb682, 0, none⟩ (.int .i64 t679)).setCell ⟨gb682, 1, none⟩ (.int .i64 t680)).heap[gb678]? = some (.cells #[.int .i64 0, .int .i64 0] 23 (0, 0))) := ⟨zF BK678 NB678_682⟩
   have n1_ : Aside0 (((w8.setCell ⟨gb682, 0, none⟩ (.int .i64 t679)).setCell ⟨gb682, 1, none⟩ (.int .i64 t680)).heap[gb682]? = some (.cells #[.int .i64 t679, .int .i64 t680] 23 (0, 0))) := ⟨zP BK682⟩
   have n2_ : Aside0 (Below w.heap.size w ((w8.setCell ⟨gb682, 0, none⟩ (.int .i64 t679)).setCell ⟨gb682, 1, none⟩ (.int .i64 t680))) := ⟨zB2 HB GE678 GE682⟩
   (try clear BK678)
   (try clear BK682)
   (try clear HB)
   generalize ((w8.setCell ⟨gb682, 0, none⟩ (.int .i64 t679)).setCell ⟨gb682, 1, none⟩ (.int .i64 t680)) = w11 at n0_ n1_ n2_ ⊢
   have BK678 := n0_
   have BK682 := n1_
   have HB := n2_
   clear n0_ n1_ n2_
   have n0_ := zA (blk_drew BK678.out)
   have n1_ := zA (blk_drew BK682.out)
   have n2_ := zA (below_drew1 HB.out)
   clear BK678
   clear BK682
   clear HB
   have BK678 := n0_
   have BK682 := n1_
   have HB := n2_
   clear n0_ n1_ n2_
   refine start_ (n := 11) (S := fun w' => True) (ds := []) #[false, false, false, false, false, false, false, false, false, false, false] (by kernel_rfl) rfl rfl trivial (fun hHeld => ?_); refine with_tabW spec_DrawRestrictTable.tab2 spec_DrawRestrictTable.bits2 (fun HT_ HW_ => ?_)
   generalize w11.drew = w12 at BK678 BK682 HB hHeld ⊢
   refine pure_ (i := 1) (N := some 13) (v := ?_) (a' := ?_) #[false, true, false, false, false, false, false, false, false, false, false] rfl rfl (any_of HT_.out (by kernel_rfl)) (fun _ _ _ h => h) (Or.inl ⟨by rfl, ?_⟩) ?_ ?_
   rotate_left
   ·intro w'
    go_simp
    with_reducible rfl
   rotate_left
   ·simp only [Act.put, List.setIfInBounds_toArray, List.set_cons_zero, List.set_cons_succ, i64_w, i32_w]
    rfl
   refine pure_ (i := 3) (N := some 15) (v := ?_) (a' := ?_) #[false, true, false, true, false, false, false, false, false, false, false] rfl rfl (any_of HT_.out (by kernel_rfl)) (fun _ _ _ h => h) (Or.inl ⟨by rfl, ?_⟩) ?_ ?_
   rotate_left
   ·intro w'
    go_simp
    with_reducible rfl
   rotate_left
   ·simp only [Act.put, List.setIfInBounds_toArray, List.set_cons_zero, List.set_cons_succ, i64_w, i32_w]
    rfl
   refine inv_at [0, 2, 4, 5, 6, 7, 8, 9, 10] (fun a0_ b a w' => ∃ (v684 : Value) (adz_v684 : Addr) (m6_ : Value), a = putSel a0_ b [(0, 12, .agg #[.int .i64 t679, .int .i64 t680]), (2, 14, v684), (4, 16, .int .i64 (l0.length : Int)), (5, 17, .int .i64 ji3), (6, 18, m6_), (7, 19, .int .i64 (rd y683 (ji3))), (9, 3, .int .i64 t681), (10, 4, .int .i64 (rd y683 (ji3)))] ∧ (b 8 = false → w'.heap[gb678]? = some (.cells #[.int .i64 0, .int .i64 0] 23 (0, 0))) ∧ (w'.heap[gb682]? = some (.cells #[.int .i64 t679, .int .i64 t680] 23 (0, 0))) ∧ (Below w.heap.size w w') ∧ (b 2 = true → Kd.R (Kd.int .i64) 3 w' w.heap.size (fun _ => True) v684 y683) ∧ (b 2 = true → ∃ c_, (v684 : Value) = .slice (some adz_v684) y683.length c_) ∧ (b 8 = true → w'.heap[gb678]? = some (.cells #[.int .i64 t679, .int .i64 t680] 23 (0, 0))) ∧ (b 6 = true → (m6_ : Value) = .pointer (some (adz_v684.add ((ji3)).toNat)))) HT_.out HW_.out (by kernel_rfl) (by kernel_rfl) ?_ ?_ ?_
   ·exact ⟨.bool false, ⟨0, 0, none⟩, .bool false, by simp only [putSel, Bool.false_eq_true, if_false], fun _ => BK678.out, BK682.out, HB.out, fun h_ => absurd h_ (by decide), fun h_ => absurd h_ (by decide), fun h_ => absurd h_ (by decide), fun h_ => absurd h_ (by decide)⟩
   ·skip
    clear BK678 BK682 HB
    refine steps_cons ?_ ?_
    ·rintro b a w' ⟨v684, adz_v684, m6_, ha, Q_BK678, Q_BK682, Q_HB, Q_HO685, Q_HA_HO685, Q_BK678_e8, Q_X6_⟩ hb_ hon hoff
     refine ⟨_, rfl, fun K hK => ?_⟩
     have e5 : a.tmps[5]? = some (.pointer (some ⟨gb682, 0, none⟩)) := by rw [ha]; exact (putSel_off rfl).trans rfl
     replace ha := zA ha
     have BK678 := zA (Q_BK678 (hoff 8 (by kernel_rfl)))
     have BK682 := zA Q_BK682
     have HB := zA Q_HB
     have hc0_ : w'.cell? ⟨gb682, 0, none⟩ = some (.int .i64 t679) := (blk_cell BK682.out 0).trans rfl
     have hc1_ : w'.cell? ⟨gb682, 1, none⟩ = some (.int .i64 t680) := (blk_cell BK682.out 1).trans rfl
     refine value_ (w1 := w') (v := .agg #[.int .i64 t679, .int .i64 t680]) (by rfl) rfl ?_ ?_
     ·go_simp
      (try simp only [i64_w])
      try rfl
      try assumption
     refine hK.out _ _ ⟨v684, adz_v684, m6_, (by rw [ha.out]; exact putSel_upk 0 hb_ rfl rfl rfl), Q_BK678, Q_BK682, Q_HB, Q_HO685, Q_HA_HO685, fun h0_ => absurd ((hoff 8 (by kernel_rfl)).symm.trans h0_) (by decide), Q_X6_⟩
    refine steps_cons ?_ ?_
    ·rintro b a w' ⟨v684, adz_v684, m6_, ha, Q_BK678, Q_BK682, Q_HB, Q_HO685, Q_HA_HO685, Q_BK678_e8, Q_X6_⟩ hb_ hon hoff
     refine ⟨_, rfl, fun K hK => ?_⟩
     replace ha := zA ha
     have BK682 := zA Q_BK682
     have HB := zA Q_HB
     refine Kd.R_lit_step (Kd.int .i64) _ 3 ?hg (N := 14) ?hd (xs := ([0, 1, 0, 1, 2, (-1)] : List Int)) (inner := [.int .i64 0, .int .i64 1, .int .i64 0, .int .i64 1, .int .i64 2, .int .i64 (-1)]) (ok := fun _ => True) (okp := fun _ => True) ?hr ?hp (fun _ hk => hk) trivial (Below.refl _ _) (Nat.le_refl _) (by simp) ?_; (case hd => rfl); (case hg => rfl); (case hr => exact zH); (case hp => exact (Reps.one (show Kd.M (Kd.int .i64) _ _ _ 0 [.int .i64 0] from rfl) (Reps.one (show Kd.M (Kd.int .i64) _ _ _ 1 [.int .i64 1] from rfl) (Reps.one (show Kd.M (Kd.int .i64) _ _ _ 0 [.int .i64 0] from rfl) (Reps.one (show Kd.M (Kd.int .i64) _ _ _ 1 [.int .i64 1] from rfl) (Reps.one (show Kd.M (Kd.int .i64) _ _ _ 2 [.int .i64 2] from rfl) (Reps.one (show Kd.M (Kd.int .i64) _ _ _ (-1) [.int .i64 (-1)] from rfl) (Reps.none _ _))))))))
     intro v684 w13 ho14 hb hg_ hnew_
     clear hg_ hnew_
     (first | rw [← Ny683.out] at ho14 | (simp only [Int.reduceToNat] at ho14; rw [← Ny683.out] at ho14))
     have n0_ := zA (Kd.R_lower ho14 (below_size (zB2 HB GE678 GE682)))
     have n2_ := zb BK682 hb
     have n3_ := zA (below_step (zB2 HB GE678 GE682) hb)
     have z_BK678 := fun (h0_ : b 8 = false) => (show w13.heap[gb678]? = some (.cells #[.int .i64 0, .int .i64 0] 23 (0, 0)) from by first | exact (blk_below (g := gb678) (o := .cells #[.int .i64 0, .int .i64 0] 23 (0, 0)) (by (with_reducible repeat (first | refine blk_drewN ?_ _ | refine blk_drew ?_ | refine blk_alloc ?_ _)); exact (Q_BK678 h0_)) hb))
     have z_BK678_e8 := fun (h0_ : b 8 = true) => (show w13.heap[gb678]? = some (.cells #[.int .i64 t679, .int .i64 t680] 23 (0, 0)) from by first | exact (blk_below (g := gb678) (o := .cells #[.int .i64 t679, .int .i64 t680] 23 (0, 0)) (by (with_reducible repeat (first | refine blk_drewN ?_ _ | refine blk_drew ?_ | refine blk_alloc ?_ _)); exact (Q_BK678_e8 h0_)) hb))
     clear BK682
     clear HB
     have HO685 := n0_
     have BK682 := n2_
     have HB := n3_
     clear n0_ n2_ n3_
     clear hb ho14
     obtain ⟨Ao15, co15, eo15⟩ := Kd.R_slice HO685.out
     subst eo15
     obtain ⟨ado15, fo15, _⟩ := Kd.at_int (Kd.R_reads' HO685.out).2.2 0 (by decide) (by rw [Ny683.out]; simp)
     cases fo15
     refine hK.out _ _ ⟨.slice (some ado15) y683.length co15, ado15, m6_, (by rw [ha.out]; exact putSel_upk 1 hb_ rfl rfl rfl), z_BK678, (zD BK682), (zB2 HB GE678 GE682), fun _ => (zR HO685), fun _ => ⟨_, rfl⟩, z_BK678_e8, fun h0_ => absurd ((hoff 6 (by kernel_rfl)).symm.trans h0_) (by decide)⟩
    refine steps_cons ?_ ?_
    ·rintro b a w' ⟨v684, adz_v684, m6_, ha, Q_BK678, Q_BK682, Q_HB, Q_HO685, Q_HA_HO685, Q_BK678_e8, Q_X6_⟩ hb_ hon hoff
     refine ⟨_, rfl, fun K hK => ?_⟩
     have e15 : a.tmps[15]? = some (.slice A0 l0.length c0) := by rw [ha]; exact (putSel_off rfl).trans rfl
     replace ha := zA ha
     have BK682 := zA Q_BK682
     have HB := zA Q_HB
     refine value_ (w1 := w') (v := .int .i64 (l0.length : Int)) (by rfl) rfl ?_ ?_
     ·go_simp
      (try simp only [i64_w])
      try rfl
      try assumption
     refine hK.out _ _ ⟨v684, adz_v684, m6_, (by rw [ha.out]; exact putSel_upk 2 hb_ rfl rfl rfl), Q_BK678, Q_BK682, Q_HB, Q_HO685, Q_HA_HO685, Q_BK678_e8, fun h0_ => absurd ((hoff 6 (by kernel_rfl)).symm.trans h0_) (by decide)⟩
    refine steps_cons ?_ ?_
    ·rintro b a w' ⟨v684, adz_v684, m6_, ha, Q_BK678, Q_BK682, Q_HB, Q_HO685, Q_HA_HO685, Q_BK678_e8, Q_X6_⟩ hb_ hon hoff
     refine ⟨_, rfl, fun K hK => ?_⟩
     have e16 : a.tmps[16]? = some (.int .i64 (l0.length : Int)) := by rw [ha]; exact putSel_on (e := (4, 16, .int .i64 (l0.length : Int))) 2 rfl rfl (hon 4 (by kernel_rfl)) rfl
     replace ha := zA ha
     have BK682 := zA Q_BK682
     have HB := zA Q_HB
     refine value_ (w1 := w') (v := .int .i64 ji3) (by rfl) rfl ?_ ?_
     ·go_simp
      (try simp only [i64_w])
      try rfl
      try assumption
     refine hK.out _ _ ⟨v684, adz_v684, m6_, (by rw [ha.out]; exact putSel_upk 3 hb_ rfl rfl rfl), Q_BK678, Q_BK682, Q_HB, Q_HO685, Q_HA_HO685, Q_BK678_e8, fun h0_ => absurd ((hoff 6 (by kernel_rfl)).symm.trans h0_) (by decide)⟩
    refine steps_cons ?_ ?_
    ·rintro b a w' ⟨v684, adz_v684, m6_, ha, Q_BK678, Q_BK682, Q_HB, Q_HO685, Q_HA_HO685, Q_BK678_e8, Q_X6_⟩ hb_ hon hoff
     refine ⟨_, rfl, fun K hK => ?_⟩
     have e14 : a.tmps[14]? = some (v684) := by rw [ha]; exact putSel_on (e := (2, 14, v684)) 1 rfl rfl (hon 2 (by kernel_rfl)) rfl
     have e17 : a.tmps[17]? = some (.int .i64 ji3) := by rw [ha]; exact putSel_on (e := (5, 17, .int .i64 ji3)) 3 rfl rfl (hon 5 (by kernel_rfl)) rfl
     replace ha := zA ha
     have BK682 := zA Q_BK682
     have HB := zA Q_HB
     have HO685 := zA (Q_HO685 (hon 2 (by kernel_rfl)))
     have HA_HO685 := zA (Q_HA_HO685 (hon 2 (by kernel_rfl)))
     obtain ⟨c_, hv_⟩ := HA_HO685.out
     rw [hv_] at e14
     refine value_ (w1 := w') (v := .pointer (some (adz_v684.add ((ji3)).toNat))) (by rfl) rfl ?_ ?_
     ·go_simp
      (try simp only [i64_w])
      try rfl
      try assumption
     refine hK.out _ _ ⟨v684, adz_v684, (.pointer (some (adz_v684.add ((ji3)).toNat))), (by rw [ha.out]; exact putSel_upk 4 hb_ rfl rfl rfl), Q_BK678, Q_BK682, Q_HB, Q_HO685, Q_HA_HO685, Q_BK678_e8, fun _ => rfl⟩
    refine steps_cons ?_ ?_
    ·rintro b a w' ⟨v684, adz_v684, m6_, ha, Q_BK678, Q_BK682, Q_HB, Q_HO685, Q_HA_HO685, Q_BK678_e8, Q_X6_⟩ hb_ hon hoff
     refine ⟨_, rfl, fun K hK => ?_⟩
     have e18 : a.tmps[18]? = some (m6_) := by rw [ha]; exact putSel_on (e := (6, 18, m6_)) 4 rfl rfl (hon 6 (by kernel_rfl)) rfl
     rw [Q_X6_ (hon 6 (by kernel_rfl))] at e18
     replace ha := zA ha
     have BK682 := zA Q_BK682
     have HB := zA Q_HB
     have HO685 := zA (Q_HO685 (hon 2 (by kernel_rfl)))
     have HA_HO685 := zA (Q_HA_HO685 (hon 2 (by kernel_rfl)))
     obtain ⟨c_, hv_⟩ := HA_HO685.out
     have hF_ := HO685.out
     rw [hv_] at hF_
     obtain ⟨ad_, ea_, hx_⟩ := Kd.at_int (Kd.R_reads' hF_).2.2 (ji3) (of_eq_true pi686) (of_eq_true qi686)
     cases ea_
     refine value_ (w1 := w') (v := .int .i64 (rd y683 (ji3))) (by rfl) rfl ?_ ?_
     ·go_simp
      (try simp only [i64_w])
      try rfl
      try assumption
     refine hK.out _ _ ⟨v684, adz_v684, m6_, (by rw [ha.out]; exact putSel_upk 5 hb_ rfl rfl rfl), Q_BK678, Q_BK682, Q_HB, Q_HO685, Q_HA_HO685, Q_BK678_e8, Q_X6_⟩
    refine steps_cons ?_ ?_
    ·rintro b a w' ⟨v684, adz_v684, m6_, ha, Q_BK678, Q_BK682, Q_HB, Q_HO685, Q_HA_HO685, Q_BK678_e8, Q_X6_⟩ hb_ hon hoff
     refine ⟨_, rfl, fun K hK => ?_⟩
     have e2 : a.tmps[2]? = some (.pointer (some ⟨gb678, 0, none⟩)) := by rw [ha]; exact (putSel_off rfl).trans rfl
     have e12 : a.tmps[12]? = some (.agg #[.int .i64 t679, .int .i64 t680]) := by rw [ha]; exact putSel_on (e := (0, 12, .agg #[.int .i64 t679, .int .i64 t680])) 0 rfl rfl (hon 0 (by kernel_rfl)) rfl
     replace ha := zA ha
     have BK678 := zA (Q_BK678 hb_)
     have BK682 := zA Q_BK682
     have HB := zA Q_HB
     have hs13 : w'.cell? ⟨gb678, 0, none⟩ = some (.int .i64 0) := (blk_cell BK678.out 0).trans rfl
     have hfs13 := blk_frozen BK678.out 0
     have hns13_1 := NB682_678.out
     have hms13_1 := NB678_682.out
     have hs14 : w'.cell? ⟨gb678, 1, none⟩ = some (.int .i64 0) := (blk_cell BK678.out 1).trans rfl
     have hfs14 := blk_frozen BK678.out 1
     have hns14_1 := NB682_678.out
     have hms14_1 := NB678_682.out
     refine skip_ (w1 := ?_) (by rfl) rfl ?_ ?_
     rotate_left
     ·go_simp
      rfl
     refine hK.out _ _ ⟨v684, adz_v684, m6_, (by rw [ha.out]; exact putSel_none (v := undef) rfl), fun h0_ => absurd ((up_self b 8).symm.trans h0_) (by decide), (zF BK682 NB682_678), (zB2 HB GE678 GE682), fun h0_ => (by (with_reducible repeat (first | apply Kd.R_alloc | apply Kd.R_drewN | apply Kd.R_drew)); exact Kd.R_mono (Kd.R_far (p := ⟨gb678, 1, none⟩) (Kd.R_far (p := ⟨gb678, 0, none⟩) (Kd.R_types (Q_HO685 h0_) BK678.out (by decide)) (fun _ hk => hk.2) (.int .i64 t679)) (fun _ hk => hk.2) (.int .i64 t680)) (fun _ hk => trivial)), Q_HA_HO685, fun _ => (zP BK678), Q_X6_⟩
    refine steps_cons ?_ ?_
    ·rintro b a w' ⟨v684, adz_v684, m6_, ha, Q_BK678, Q_BK682, Q_HB, Q_HO685, Q_HA_HO685, Q_BK678_e8, Q_X6_⟩ hb_ hon hoff
     refine ⟨_, rfl, fun K hK => ?_⟩
     have e13 : a.tmps[13]? = some (.int .i64 t681) := by rw [ha]; exact (putSel_off rfl).trans rfl
     replace ha := zA ha
     have BK682 := zA Q_BK682
     have HB := zA Q_HB
     have BK678 := zA (Q_BK678_e8 (hon 8 (by kernel_rfl)))
     refine value_ (w1 := w') (v := .int .i64 t681) (by rfl) rfl ?_ ?_
     ·go_simp
      (try simp only [i64_w])
      try rfl
      try assumption
     refine hK.out _ _ ⟨v684, adz_v684, m6_, (by rw [ha.out]; exact putSel_upk 6 hb_ rfl rfl rfl), fun h0_ => absurd ((hon 8 (by kernel_rfl)).symm.trans h0_) (by decide), Q_BK682, Q_HB, Q_HO685, Q_HA_HO685, Q_BK678_e8, Q_X6_⟩
    refine steps_cons ?_ ?_
    ·rintro b a w' ⟨v684, adz_v684, m6_, ha, Q_BK678, Q_BK682, Q_HB, Q_HO685, Q_HA_HO685, Q_BK678_e8, Q_X6_⟩ hb_ hon hoff
     refine ⟨_, rfl, fun K hK => ?_⟩
     have e19 : a.tmps[19]? = some (.int .i64 (rd y683 (ji3))) := by rw [ha]; exact putSel_on (e := (7, 19, .int .i64 (rd y683 (ji3)))) 5 rfl rfl (hon 7 (by kernel_rfl)) rfl
     replace ha := zA ha
     have BK682 := zA Q_BK682
     have HB := zA Q_HB
     have HO685 := zA (Q_HO685 (hon 2 (by kernel_rfl)))
     have HA_HO685 := zA (Q_HA_HO685 (hon 2 (by kernel_rfl)))
     have BK678 := zA (Q_BK678_e8 (hon 8 (by kernel_rfl)))
     refine value_ (w1 := w') (v := .int .i64 (rd y683 (ji3))) (by rfl) rfl ?_ ?_
     ·go_simp
      (try simp only [i64_w])
      try rfl
      try assumption
     refine hK.out _ _ ⟨v684, adz_v684, m6_, (by rw [ha.out]; exact putSel_upk 7 hb_ rfl rfl rfl), fun h0_ => absurd ((hon 8 (by kernel_rfl)).symm.trans h0_) (by decide), Q_BK682, Q_HB, Q_HO685, Q_HA_HO685, Q_BK678_e8, Q_X6_⟩
    exact steps_nil
   rintro b a w18 hall ⟨v684, adz_v684, m6_, ha, Q_BK678, Q_BK682, Q_HB, Q_HO685, Q_HA_HO685, Q_BK678_e8, Q_X6_⟩
   clear BK678 BK682 HB
   have hb0_ := hall 0 (by kernel_rfl)
   have hb2_ := hall 2 (by kernel_rfl)
   have hb4_ := hall 4 (by kernel_rfl)
   have hb5_ := hall 5 (by kernel_rfl)
   have hb6_ := hall 6 (by kernel_rfl)
   have hb7_ := hall 7 (by kernel_rfl)
   have hb8_ := hall 8 (by kernel_rfl)
   have hb9_ := hall 9 (by kernel_rfl)
   have hb10_ := hall 10 (by kernel_rfl)
   subst ha
   obtain rfl := Q_X6_ hb6_
   simp only [putSel, hb0_, hb2_, hb4_, hb5_, hb6_, hb7_, hb8_, hb9_, hb10_, if_true, Act.put, List.setIfInBounds_toArray, List.set_cons_zero, List.set_cons_succ]
   clear Q_BK678
   have BK682 := zA Q_BK682
   clear Q_BK682
   have HB := zA Q_HB
   clear Q_HB
   have HO685 := zA (Q_HO685 hb2_)
   clear Q_HO685
   have HA_HO685 := zA (Q_HA_HO685 hb2_)
   clear Q_HA_HO685
   have BK678 := zA (Q_BK678_e8 hb8_)
   clear Q_BK678_e8
   clear hall hb0_ hb2_ hb4_ hb5_ hb6_ hb7_ hb8_ hb9_ hb10_
   obtain ⟨co19, eo19⟩ := HA_HO685.out
   clear HA_HO685
   subst eo19
   try go_wp2
   refine bodyPost_ret (results_ctt rfl _ _ gb678 23 #[.int .i64 t679, .int .i64 t680] (0, 0) _ rfl (zD BK678) Try.underlying23 rfl (by kernel_rfl)) rfl ?_
   exact ⟨by first | rfl | (simp [errW_none, errW_some] <;> rfl) | (simp only [← hji3]; first | rfl | (simp [errW_none, errW_some] <;> rfl)) | (simp [*, errW_none, errW_some] <;> rfl), zB2 HB GE678 GE682⟩
  ·rw [if_neg c5] at H
   exact absurd H (by simp)
 ·rw [if_neg c4] at H
  exact absurd H (by simp)

end Go.Proofs.Ytijpcemcijaeeaa.P

-- tmod_mended
