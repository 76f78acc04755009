/- The functions that this seat's laws reach, each as a plain Lean function, and the walk of each; written by a program over the kit's print. No conditions but those that stand in the theorems. -/
import Derived.Test.YtijpcemcijaeeaaP0
import Derived.Test.YtijpcemcijaeeaaPa0
import Derived.Test.YtijpcemcijaeeaaPa1
import Derived.Test.YtijpcemcijaeeaaPb0
import Derived.Test.YtijpcemcijaeeaaPm
import Derived.Test.YtijpcemcijaeeaaPy0
import Derived.Test.YtijpcemcijaeeaaK6
import Derived.Test.YtijpcemcijaeeaaK5
namespace Go.Proofs.Ytijpcemcijaeeaa.P
open Go.RowKit Go.Proofs.YtijpcemcijaeeaaW.PrintWords Go.Proofs.YtijpcemcijaeeaaW.PrintLast Go.Proofs.YtijpcemcijaeeaaW.PrintMore
attribute [local go_sem] max2_int min2_int max_two min_two max_three min_three max_four min_four   -- for this text's walks alone
set_option linter.unusedVariables false
set_option linter.unusedSimpArgs false

attribute [local go_sem] fld23_0 fld23_1
/-! ### spec_JoinTables: function 31 -/
mutual
def spec_JoinTables.j0 : Nat → Int → Bool → Int → Int → Int → Int → Option (Int × Int × Bool)
 | 0, _, _, _, _, _, _ => none
 | k + 1, x2, x25, x194000, x194001, x195000, x195001 => if x25 = true then (some (0, 0, false)) else (spec_JoinTables.l0 k x2 0 0 x194000 x194001 x195000 x195001)
def spec_JoinTables.l0 : Nat → Int → Int → Int → Int → Int → Int → Int → Option (Int × Int × Bool)
 | 0, _, _, _, _, _, _, _ => none
 | k + 1, x2, x8, x9, x194000, x194001, x195000, x195001 => if 0 ≤ x194000 then (if x9 < (shl .i64 1 x194000) then (if 0 ≤ x9 then ((spec_l3Insert.f x9 x2 0).bind fun t198 => (if 0 ≤ t198 then ((spec_l3Insert.f x9 x2 1).bind fun t199 => (if 0 ≤ t199 then (spec_JoinTables.l0 k x2 (Go.bits .or .i64 (Go.bits .or .i64 x8 (shl .i64 (Go.bits .and .i64 (shr .i64 x194001 x9) 1) t198)) (shl .i64 (Go.bits .and .i64 (shr .i64 x195001 x9) 1) t199)) (wrap64 (x9 + 1)) x194000 x194001 x195000 x195001) else (none))) else (none))) else (none)) else (some (wrap64 (x194000 + 1), x8, true))) else (none)
end
def spec_JoinTables.f (k : Nat) (a0_0 : Int) (a0_1 : Int) (a1_0 : Int) (a1_1 : Int) (a2 : Int) : Option (Int × Int × Bool) := (spec_l2Fit.f a0_0 a0_1 a1_0 a1_1).bind fun t196 => (if t196 = true then (if a0_0 = 5 then (spec_JoinTables.j0 k a2 true a0_0 a0_1 a1_0 a1_1) else ((spec_l1In.f a2 0 a0_0).bind fun t197 => (spec_JoinTables.j0 k a2 (!t197) a0_0 a0_1 a1_0 a1_1))) else (spec_JoinTables.j0 k a2 true a0_0 a0_1 a1_0 a1_1))
theorem spec_JoinTables.mono_l : ∀ k, (∀ y0 y1 y2 y3 y4 y5, LeO (spec_JoinTables.j0 k y0 y1 y2 y3 y4 y5) (spec_JoinTables.j0 (k + 1) y0 y1 y2 y3 y4 y5)) ∧ (∀ y0 y1 y2 y3 y4 y5 y6, LeO (spec_JoinTables.l0 k y0 y1 y2 y3 y4 y5 y6) (spec_JoinTables.l0 (k + 1) y0 y1 y2 y3 y4 y5 y6))
 | 0 => ⟨fun _ _ _ _ _ _ r h => by simp [spec_JoinTables.j0] at h, fun _ _ _ _ _ _ _ r h => by simp [spec_JoinTables.l0] at h⟩
 | k + 1 => by
  obtain ⟨ih0, ih1⟩ := spec_JoinTables.mono_l k
  refine ⟨?_, ?_⟩
  ·intro y0 y1 y2 y3 y4 y5
   unfold spec_JoinTables.j0
   repeat' first
   | (with_reducible exact ih0 _ _ _ _ _ _)
   | (with_reducible exact ih1 _ _ _ _ _ _ _)
   | (with_reducible exact LeO.refl _)
   | (with_reducible exact LeO.none _)
   | (with_reducible refine LeO.ite ?_ ?_)
   | (with_reducible refine LeO.bind ?_ (fun _ => ?_))
   | exact ih0 _ _ _ _ _ _
   | exact ih1 _ _ _ _ _ _ _
   | exact LeO.none _
   | refine LeO.ite ?_ ?_
   | refine LeO.bind ?_ (fun _ => ?_)
  ·intro y0 y1 y2 y3 y4 y5 y6
   unfold spec_JoinTables.l0
   repeat' first
   | (with_reducible exact ih0 _ _ _ _ _ _)
   | (with_reducible exact ih1 _ _ _ _ _ _ _)
   | (with_reducible exact LeO.refl _)
   | (with_reducible exact LeO.none _)
   | (with_reducible refine LeO.ite ?_ ?_)
   | (with_reducible refine LeO.bind ?_ (fun _ => ?_))
   | exact ih0 _ _ _ _ _ _
   | exact ih1 _ _ _ _ _ _ _
   | exact LeO.none _
   | refine LeO.ite ?_ ?_
   | refine LeO.bind ?_ (fun _ => ?_)
theorem spec_JoinTables.mono : ∀ a0 a1 a2 a3 a4 k, LeO (spec_JoinTables.f k a0 a1 a2 a3 a4) (spec_JoinTables.f (k + 1) a0 a1 a2 a3 a4) := by
 intro a0 a1 a2 a3 a4 k
 obtain ⟨ih0, ih1⟩ := spec_JoinTables.mono_l k
 unfold spec_JoinTables.f
 repeat' first
   | (with_reducible exact ih0 _ _ _ _ _ _)
   | (with_reducible exact ih1 _ _ _ _ _ _ _)
   | (with_reducible exact LeO.refl _)
   | (with_reducible exact LeO.none _)
   | (with_reducible refine LeO.ite ?_ ?_)
   | (with_reducible refine LeO.bind ?_ (fun _ => ?_))
   | exact ih0 _ _ _ _ _ _
   | exact ih1 _ _ _ _ _ _ _
   | exact LeO.none _
   | refine LeO.ite ?_ ?_
   | refine LeO.bind ?_ (fun _ => ?_)
set_option maxHeartbeats 8000000 in
set_option maxRecDepth 100000 in
theorem spec_JoinTables.calls (k : Nat) (a0_0 : Int) (a0_1 : Int) (a1_0 : Int) (a1_1 : Int) (a2 : Int) (r1 : Int) (r2 : Int) (r3 : Bool) (w : World) (h : spec_JoinTables.f k a0_0 a0_1 a1_0 a1_1 a2 = some (r1, r2, r3)) :
  Calls Try.prog 31 #[.agg #[.int .i64 a0_0, .int .i64 a0_1], .agg #[.int .i64 a1_0, .int .i64 a1_1], .int .i64 a2] w fun e w' => e = .returned (.tuple #[.agg #[.int .i64 r1, .int .i64 r2], .bool r3]) ∧ Below w.heap.size w w' := by
 have hu23 := Try.underlying23
 have HB := zA (Below.refl w.heap.size w)
 have H := h
 unfold spec_JoinTables.f at H
 clear h
 have HC4 := zA H
 clear H
 go_enter Try.func31, Try.ntmps31
 go_upto_region 1 with (first | ((with_reducible refine gate_dst (N := 3) rfl ?_); refine box_event ?hg (N := 3) ?hd (cs := #[.int .i64 a0_0, .int .i64 a0_1]) (t := 23) ?hr ?_; (case hd => rfl); (case hg => rfl); (case hr => exact zH); intro gb193 hg w5 hbox hb; have BK193 := zA (hbox); have GW193 := zg HB hg; have GE193 := zg HB hg; replace HB := zA (below_step (zB HB) hb); clear hb hbox hg) | ((with_reducible refine gate_dst (N := 4) rfl ?_); refine box_event ?hg (N := 4) ?hd (cs := #[.int .i64 a1_0, .int .i64 a1_1]) (t := 23) ?hr ?_; (case hd => rfl); (case hg => rfl); (case hr => exact zH); intro gb194 hg w6 hbox hb; have BK194 := zA (hbox); have GW194 := zg1 HB GE193 hg; have GE194 := zg1 HB GE193 hg; have NB193_194 := zn BK193 hg; have NB194_193 := zo BK193 hg; replace BK193 := zb BK193 hb; replace HB := zA (below_step (zB1 HB GE193) hb); clear hb hbox hg) | ((with_reducible refine gate_dst (N := 6) rfl ?_); refine box_event ?hg (N := 6) ?hd (cs := #[.int .i64 0, .int .i64 0]) (t := 23) ?hr ?_; (case hd => rfl); (case hg => rfl); (case hr => exact zH); intro gb195 hg w7 hbox hb; have BK195 := zA (hbox); have GW195 := zg2 HB GE193 GE194 hg; have GE195 := zg2 HB GE193 GE194 hg; have NB193_195 := zn BK193 hg; have NB195_193 := zo BK193 hg; have NB194_195 := zn BK194 hg; have NB195_194 := zo BK194 hg; replace BK193 := zb BK193 hb; replace BK194 := zb BK194 hb; replace HB := zA (below_step (zB2 HB GE193 GE194) hb); clear hb hbox hg))
 repeat (go_quiet (first | ((with_reducible refine gate_dst (N := 3) rfl ?_); refine box_event ?hg (N := 3) ?hd (cs := #[.int .i64 a0_0, .int .i64 a0_1]) (t := 23) ?hr ?_; (case hd => rfl); (case hg => rfl); (case hr => exact zH); intro gb193 hg w5 hbox hb; have BK193 := zA (hbox); have GW193 := zg HB hg; have GE193 := zg HB hg; replace HB := zA (below_step (zB HB) hb); clear hb hbox hg) | ((with_reducible refine gate_dst (N := 4) rfl ?_); refine box_event ?hg (N := 4) ?hd (cs := #[.int .i64 a1_0, .int .i64 a1_1]) (t := 23) ?hr ?_; (case hd => rfl); (case hg => rfl); (case hr => exact zH); intro gb194 hg w6 hbox hb; have BK194 := zA (hbox); have GW194 := zg1 HB GE193 hg; have GE194 := zg1 HB GE193 hg; have NB193_194 := zn BK193 hg; have NB194_193 := zo BK193 hg; replace BK193 := zb BK193 hb; replace HB := zA (below_step (zB1 HB GE193) hb); clear hb hbox hg) | ((with_reducible refine gate_dst (N := 6) rfl ?_); refine box_event ?hg (N := 6) ?hd (cs := #[.int .i64 0, .int .i64 0]) (t := 23) ?hr ?_; (case hd => rfl); (case hg => rfl); (case hr => exact zH); intro gb195 hg w7 hbox hb; have BK195 := zA (hbox); have GW195 := zg2 HB GE193 GE194 hg; have GE195 := zg2 HB GE193 GE194 hg; have NB193_195 := zn BK193 hg; have NB195_193 := zo BK193 hg; have NB194_195 := zn BK194 hg; have NB195_194 := zo BK194 hg; replace BK193 := zb BK193 hb; replace BK194 := zb BK194 hb; replace HB := zA (below_step (zB2 HB GE193 GE194) hb); clear hb hbox hg)); go_upto_region 1 with (first | ((with_reducible refine gate_dst (N := 3) rfl ?_); refine box_event ?hg (N := 3) ?hd (cs := #[.int .i64 a0_0, .int .i64 a0_1]) (t := 23) ?hr ?_; (case hd => rfl); (case hg => rfl); (case hr => exact zH); intro gb193 hg w5 hbox hb; have BK193 := zA (hbox); have GW193 := zg HB hg; have GE193 := zg HB hg; replace HB := zA (below_step (zB HB) hb); clear hb hbox hg) | ((with_reducible refine gate_dst (N := 4) rfl ?_); refine box_event ?hg (N := 4) ?hd (cs := #[.int .i64 a1_0, .int .i64 a1_1]) (t := 23) ?hr ?_; (case hd => rfl); (case hg => rfl); (case hr => exact zH); intro gb194 hg w6 hbox hb; have BK194 := zA (hbox); have GW194 := zg1 HB GE193 hg; have GE194 := zg1 HB GE193 hg; have NB193_194 := zn BK193 hg; have NB194_193 := zo BK193 hg; replace BK193 := zb BK193 hb; replace HB := zA (below_step (zB1 HB GE193) hb); clear hb hbox hg) | ((with_reducible refine gate_dst (N := 6) rfl ?_); refine box_event ?hg (N := 6) ?hd (cs := #[.int .i64 0, .int .i64 0]) (t := 23) ?hr ?_; (case hd => rfl); (case hg => rfl); (case hr => exact zH); intro gb195 hg w7 hbox hb; have BK195 := zA (hbox); have GW195 := zg2 HB GE193 GE194 hg; have GE195 := zg2 HB GE193 GE194 hg; have NB193_195 := zn BK193 hg; have NB195_193 := zo BK193 hg; have NB194_195 := zn BK194 hg; have NB195_194 := zo BK194 hg; replace BK193 := zb BK193 hb; replace BK194 := zb BK194 hb; replace HB := zA (below_step (zB2 HB GE193 GE194) hb); clear hb hbox hg)))
 (try simp only [Act.put, List.setIfInBounds_toArray, List.set_cons_zero, List.set_cons_succ])
 go_cut [25] (fun v25 wc => ∃ (kq : Nat) (x25_3 : Bool), v25 = .bool x25_3 ∧ Aside0 (spec_JoinTables.j0 kq a2 x25_3 a0_0 a0_1 a1_0 a1_1 = some (r1, r2, r3)) ∧ Aside0 (kq ≤ k) ∧ Aside0 (wc.heap[gb193]? = some (.cells #[.int .i64 a0_0, .int .i64 a0_1] 23 (0, 0))) ∧ Aside0 (wc.heap[gb194]? = some (.cells #[.int .i64 a1_0, .int .i64 a1_1] 23 (0, 0))) ∧ Aside0 (wc.heap[gb195]? = some (.cells #[.int .i64 0, .int .i64 0] 23 (0, 0))) ∧ Aside0 (Below w.heap.size w wc))
 case first =>
  have H := HC4.out
  clear HC4
  replace H := Option.bind_eq_some_iff.mp H
  obtain ⟨t196, A80, H⟩ := H
  replace H : (if t196 = true then (if a0_0 = 5 then (spec_JoinTables.j0 k a2 true a0_0 a0_1 a1_0 a1_1) else ((spec_l1In.f a2 0 a0_0).bind fun t197 => (spec_JoinTables.j0 k a2 (!t197) a0_0 a0_1 a1_0 a1_1))) else (spec_JoinTables.j0 k a2 true a0_0 a0_1 a1_0 a1_1)) = some (r1, r2, r3) := H
  have A8 := zA A80
  clear A80
  by_cases c9 : t196 = true
  ·subst c9
   have H1 : (if a0_0 = 5 then (spec_JoinTables.j0 k a2 true a0_0 a0_1 a1_0 a1_1) else ((spec_l1In.f a2 0 a0_0).bind fun t197 => (spec_JoinTables.j0 k a2 (!t197) a0_0 a0_1 a1_0 a1_1))) = some (r1, r2, r3) := by rw [if_pos rfl] at H; exact H
   clear H
   have H := H1
   clear H1
   by_cases c10 : a0_0 = 5
   ·rw [if_pos c10] at H
    have c10b0 : (a0_0 == 5) = true := beq_iff_eq.mpr c10
    have c10b1 : (a0_0 != 5) = false := bne_eq_false_iff_eq.mpr c10
    clear c10
    (first | rw [c10b0] | (simp only [i64_w, i32_w]; rw [c10b0]) | skip)
    have H' := zA H
    clear H
    have hnb11 := NB193_194.out
    have hnc11 := NB194_193.out
    have hnb12 := NB193_195.out
    have hnc12 := NB195_193.out
    have hcz13_0 := zc0 BK193
    have hcz13_1 := zc1 BK193
    have hfz13_0 := blk_frozen BK193.out 0
    have hfz13_1 := blk_frozen BK193.out 1
    have hnb14 := NB194_195.out
    have hnc14 := NB195_194.out
    have hcz15_0 := zc0 BK194
    have hcz15_1 := zc1 BK194
    have hfz15_0 := blk_frozen BK194.out 0
    have hfz15_1 := blk_frozen BK194.out 1
    go_wp2_with (first | (go_at_call 88; (with_reducible refine (spec_l2Fit.calls a0_0 a0_1 a1_0 a1_1 true _ A8.out).mono ?_); rintro e w16 ⟨rfl, hb⟩; replace BK193 := zb BK193 hb; replace BK194 := zb BK194 hb; replace BK195 := zb BK195 hb; replace HB := zA (below_step (zB3 HB GE193 GE194 GE195) hb); (try clear hb); (try clear hb2); (try clear hk); (try clear hi); have hcz17_0 := zc0 BK193; have hcz17_1 := zc1 BK193; have hfz17_0 := blk_frozen BK193.out 0; have hfz17_1 := blk_frozen BK193.out 1))
    repeat (go_quiet (first | (go_at_call 88; (with_reducible refine (spec_l2Fit.calls a0_0 a0_1 a1_0 a1_1 true _ A8.out).mono ?_); rintro e w16 ⟨rfl, hb⟩; replace BK193 := zb BK193 hb; replace BK194 := zb BK194 hb; replace BK195 := zb BK195 hb; replace HB := zA (below_step (zB3 HB GE193 GE194 GE195) hb); (try clear hb); (try clear hb2); (try clear hk); (try clear hi); have hcz17_0 := zc0 BK193; have hcz17_1 := zc1 BK193; have hfz17_0 := blk_frozen BK193.out 0; have hfz17_1 := blk_frozen BK193.out 1)); try go_wp2_with (first | (go_at_call 88; (with_reducible refine (spec_l2Fit.calls a0_0 a0_1 a1_0 a1_1 true _ A8.out).mono ?_); rintro e w16 ⟨rfl, hb⟩; replace BK193 := zb BK193 hb; replace BK194 := zb BK194 hb; replace BK195 := zb BK195 hb; replace HB := zA (below_step (zB3 HB GE193 GE194 GE195) hb); (try clear hb); (try clear hb2); (try clear hk); (try clear hi); have hcz17_0 := zc0 BK193; have hcz17_1 := zc1 BK193; have hfz17_0 := blk_frozen BK193.out 0; have hfz17_1 := blk_frozen BK193.out 1)))
    go_meet
    case rel => exact ⟨_, (true), zS, H', ⟨by first | omega | exact Nat.le_refl _⟩, ⟨zD BK193⟩, ⟨zD BK194⟩, ⟨zD BK195⟩, ⟨zB3 HB GE193 GE194 GE195⟩⟩
   ·rw [if_neg c10] at H
    have c10b0 : (a0_0 == 5) = false := beq_eq_false_iff_ne.mpr c10
    have c10b1 : (a0_0 != 5) = true := bne_iff_ne.mpr c10
    (first | rw [c10b0] | (simp only [i64_w, i32_w]; rw [c10b0]) | skip)
    replace H := Option.bind_eq_some_iff.mp H
    obtain ⟨t197, A180, H⟩ := H
    replace H : (spec_JoinTables.j0 k a2 (!t197) a0_0 a0_1 a1_0 a1_1) = some (r1, r2, r3) := H
    have A18 := zA A180
    clear A180
    have H' := zA H
    clear H
    have hnb19 := NB193_194.out
    have hnc19 := NB194_193.out
    have hnb20 := NB193_195.out
    have hnc20 := NB195_193.out
    have hcz21_0 := zc0 BK193
    have hcz21_1 := zc1 BK193
    have hfz21_0 := blk_frozen BK193.out 0
    have hfz21_1 := blk_frozen BK193.out 1
    have hnb22 := NB194_195.out
    have hnc22 := NB195_194.out
    have hcz23_0 := zc0 BK194
    have hcz23_1 := zc1 BK194
    have hfz23_0 := blk_frozen BK194.out 0
    have hfz23_1 := blk_frozen BK194.out 1
    go_wp2_with (first | (go_at_call 88; (with_reducible refine (spec_l2Fit.calls a0_0 a0_1 a1_0 a1_1 true _ A8.out).mono ?_); rintro e w24 ⟨rfl, hb⟩; replace BK193 := zb BK193 hb; replace BK194 := zb BK194 hb; replace BK195 := zb BK195 hb; replace HB := zA (below_step (zB3 HB GE193 GE194 GE195) hb); (try clear hb); (try clear hb2); (try clear hk); (try clear hi); have hcz25_0 := zc0 BK193; have hcz25_1 := zc1 BK193; have hfz25_0 := blk_frozen BK193.out 0; have hfz25_1 := blk_frozen BK193.out 1) | (go_at_call 74; (with_reducible refine (spec_l1In.calls a2 0 a0_0 t197 _ A18.out).mono ?_); rintro e w' ⟨rfl, ⟨nd, rfl⟩⟩; (try first | exact ⟨rfl, _, World.drewN_drewN _ _ _⟩ | exact ⟨rfl, _, Eq.trans (World.drewN_drewN _ _ _) (congrArg (World.drewN _) (Nat.add_assoc _ _ _))⟩)))
    repeat (go_quiet (first | (go_at_call 88; (with_reducible refine (spec_l2Fit.calls a0_0 a0_1 a1_0 a1_1 true _ A8.out).mono ?_); rintro e w24 ⟨rfl, hb⟩; replace BK193 := zb BK193 hb; replace BK194 := zb BK194 hb; replace BK195 := zb BK195 hb; replace HB := zA (below_step (zB3 HB GE193 GE194 GE195) hb); (try clear hb); (try clear hb2); (try clear hk); (try clear hi); have hcz25_0 := zc0 BK193; have hcz25_1 := zc1 BK193; have hfz25_0 := blk_frozen BK193.out 0; have hfz25_1 := blk_frozen BK193.out 1) | (go_at_call 74; (with_reducible refine (spec_l1In.calls a2 0 a0_0 t197 _ A18.out).mono ?_); rintro e w' ⟨rfl, ⟨nd, rfl⟩⟩; (try first | exact ⟨rfl, _, World.drewN_drewN _ _ _⟩ | exact ⟨rfl, _, Eq.trans (World.drewN_drewN _ _ _) (congrArg (World.drewN _) (Nat.add_assoc _ _ _))⟩))); try go_wp2_with (first | (go_at_call 88; (with_reducible refine (spec_l2Fit.calls a0_0 a0_1 a1_0 a1_1 true _ A8.out).mono ?_); rintro e w24 ⟨rfl, hb⟩; replace BK193 := zb BK193 hb; replace BK194 := zb BK194 hb; replace BK195 := zb BK195 hb; replace HB := zA (below_step (zB3 HB GE193 GE194 GE195) hb); (try clear hb); (try clear hb2); (try clear hk); (try clear hi); have hcz25_0 := zc0 BK193; have hcz25_1 := zc1 BK193; have hfz25_0 := blk_frozen BK193.out 0; have hfz25_1 := blk_frozen BK193.out 1) | (go_at_call 74; (with_reducible refine (spec_l1In.calls a2 0 a0_0 t197 _ A18.out).mono ?_); rintro e w' ⟨rfl, ⟨nd, rfl⟩⟩; (try first | exact ⟨rfl, _, World.drewN_drewN _ _ _⟩ | exact ⟨rfl, _, Eq.trans (World.drewN_drewN _ _ _) (congrArg (World.drewN _) (Nat.add_assoc _ _ _))⟩))))
    go_meet
    case rel => exact ⟨_, (!t197), zS, H', ⟨by first | omega | exact Nat.le_refl _⟩, ⟨zD BK193⟩, ⟨zD BK194⟩, ⟨zD BK195⟩, ⟨zB3 HB GE193 GE194 GE195⟩⟩
  ·replace c9 := Bool.eq_false_iff.mpr c9
   subst c9
   have H1 : (spec_JoinTables.j0 k a2 true a0_0 a0_1 a1_0 a1_1) = some (r1, r2, r3) := by rw [if_neg (show ¬ (false = true) by decide)] at H; exact H
   clear H
   have H := H1
   clear H1
   have H' := zA H
   clear H
   have hnb26 := NB193_194.out
   have hnc26 := NB194_193.out
   have hnb27 := NB193_195.out
   have hnc27 := NB195_193.out
   have hcz28_0 := zc0 BK193
   have hcz28_1 := zc1 BK193
   have hfz28_0 := blk_frozen BK193.out 0
   have hfz28_1 := blk_frozen BK193.out 1
   have hnb29 := NB194_195.out
   have hnc29 := NB195_194.out
   have hcz30_0 := zc0 BK194
   have hcz30_1 := zc1 BK194
   have hfz30_0 := blk_frozen BK194.out 0
   have hfz30_1 := blk_frozen BK194.out 1
   go_wp2_with (first | (go_at_call 88; (with_reducible refine (spec_l2Fit.calls a0_0 a0_1 a1_0 a1_1 false _ A8.out).mono ?_); rintro e w31 ⟨rfl, hb⟩; replace BK193 := zb BK193 hb; replace BK194 := zb BK194 hb; replace BK195 := zb BK195 hb; replace HB := zA (below_step (zB3 HB GE193 GE194 GE195) hb); (try clear hb); (try clear hb2); (try clear hk); (try clear hi)))
   repeat (go_quiet (first | (go_at_call 88; (with_reducible refine (spec_l2Fit.calls a0_0 a0_1 a1_0 a1_1 false _ A8.out).mono ?_); rintro e w31 ⟨rfl, hb⟩; replace BK193 := zb BK193 hb; replace BK194 := zb BK194 hb; replace BK195 := zb BK195 hb; replace HB := zA (below_step (zB3 HB GE193 GE194 GE195) hb); (try clear hb); (try clear hb2); (try clear hk); (try clear hi))); try go_wp2_with (first | (go_at_call 88; (with_reducible refine (spec_l2Fit.calls a0_0 a0_1 a1_0 a1_1 false _ A8.out).mono ?_); rintro e w31 ⟨rfl, hb⟩; replace BK193 := zb BK193 hb; replace BK194 := zb BK194 hb; replace BK195 := zb BK195 hb; replace HB := zA (below_step (zB3 HB GE193 GE194 GE195) hb); (try clear hb); (try clear hb2); (try clear hk); (try clear hi))))
   go_meet
   case rel => exact ⟨_, (true), zS, H', ⟨by first | omega | exact Nat.le_refl _⟩, ⟨zD BK193⟩, ⟨zD BK194⟩, ⟨zD BK195⟩, ⟨zB3 HB GE193 GE194 GE195⟩⟩
 case rest =>
  clear HC4
  try clear c1
  try clear c2
  try clear p2
  try clear c3
  try clear c9
  try clear c10
  try clear c10b0
  try clear c10b1
  try clear c11
  try clear c12
  try clear c14
  try clear c19
  try clear c20
  try clear c22
  try clear c26
  try clear c27
  try clear c29
  try clear c31
  try clear hcz13_0
  try clear hcz13_1
  try clear hcz15_0
  try clear hcz15_1
  try clear hcz17_0
  try clear hcz17_1
  try clear hcz21_0
  try clear hcz21_1
  try clear hcz23_0
  try clear hcz23_1
  try clear hcz25_0
  try clear hcz25_1
  try clear hcz28_0
  try clear hcz28_1
  try clear hcz30_0
  try clear hcz30_1
  try clear hfz13_0
  try clear hfz13_1
  try clear hfz15_0
  try clear hfz15_1
  try clear hfz17_0
  try clear hfz17_1
  try clear hfz21_0
  try clear hfz21_1
  try clear hfz23_0
  try clear hfz23_1
  try clear hfz25_0
  try clear hfz25_1
  try clear hfz28_0
  try clear hfz28_1
  try clear hfz30_0
  try clear hfz30_1
  obtain ⟨kq, x25_3, rfl, HA, HJ3, BK193, BK194, BK195, HB⟩ := hcut
  cases kq with
  | zero => exact absurd HA.out (by simp [spec_JoinTables.j0])
  | succ kj3 =>
   have H := HA.out
   clear HA
   simp only [spec_JoinTables.j0] at H
   by_cases c32 : x25_3 = true
   ·subst c32
    have H1 : (some (0, 0, false)) = some (r1, r2, r3) := by rw [if_pos rfl] at H; exact H
    clear H
    have H := H1
    clear H1
    simp only [Option.some.injEq, Prod.mk.injEq] at H
    obtain ⟨rfl, rfl, rfl⟩ := H
    have hnb33 := NB195_193.out
    have hnc33 := NB193_195.out
    have hnb34 := NB195_194.out
    have hnc34 := NB194_195.out
    have hcz35_0 := zc0 BK195
    have hcz35_1 := zc1 BK195
    have hfz35_0 := blk_frozen BK195.out 0
    have hfz35_1 := blk_frozen BK195.out 1
    go_wp2
    repeat (go_quiet (fail); try go_wp2)
    refine bodyPost_ret (results_ct rfl _ _ gb195 23 #[.int .i64 0, .int .i64 0] (0, 0) _ rfl (zP BK195) Try.underlying23 rfl (by kernel_rfl)) rfl ?_
    exact ⟨by first | rfl | (simp [errW_none, errW_some] <;> rfl) | (simp [*, errW_none, errW_some] <;> rfl), zB3 HB GE193 GE194 GE195⟩
   ·replace c32 := Bool.eq_false_iff.mpr c32
    subst c32
    have H1 : (spec_JoinTables.l0 kj3 a2 0 0 a0_0 a0_1 a1_0 a1_1) = some (r1, r2, r3) := by rw [if_neg (show ¬ (false = true) by decide)] at H; exact H
    clear H
    have H := H1
    clear H1
    have H' := zA H
    clear H
    go_wp2
    repeat (go_quiet (fail); try go_wp2)
    go_loopg [8, 9] kj3 (fun kq v8 v9 w' => ∃ (x8_2 : Int) (x9_2 : Int), v8 = .int .i64 x8_2 ∧ v9 = .int .i64 x9_2 ∧ Aside0 (spec_JoinTables.l0 kq a2 x8_2 x9_2 a0_0 a0_1 a1_0 a1_1 = some (r1, r2, r3)) ∧ Aside0 (kq ≤ kj3) ∧ Aside0 (w'.heap[gb193]? = some (.cells #[.int .i64 a0_0, .int .i64 a0_1] 23 (0, 0))) ∧ Aside0 (w'.heap[gb194]? = some (.cells #[.int .i64 a1_0, .int .i64 a1_1] 23 (0, 0))) ∧ Aside0 (w'.heap[gb195]? = some (.cells #[.int .i64 0, .int .i64 0] 23 (0, 0))) ∧ Aside0 (Below w.heap.size w w'))
    case atStart => exact ⟨(0), (0), zS, zS, H', ⟨Nat.le_refl _⟩, ⟨zD BK193⟩, ⟨zD BK194⟩, ⟨zD BK195⟩, ⟨zB3 HB GE193 GE194 GE195⟩⟩
    case round =>
     clear H'
     try clear c1
     try clear c2
     try clear p2
     try clear c3
     try clear c9
     try clear c10
     try clear c10b0
     try clear c10b1
     try clear c11
     try clear c12
     try clear c14
     try clear c19
     try clear c20
     try clear c22
     try clear c26
     try clear c27
     try clear c29
     try clear c31
     try clear c32
     try clear c33
     try clear c34
     try clear hcz13_0
     try clear hcz13_1
     try clear hcz15_0
     try clear hcz15_1
     try clear hcz17_0
     try clear hcz17_1
     try clear hcz21_0
     try clear hcz21_1
     try clear hcz23_0
     try clear hcz23_1
     try clear hcz25_0
     try clear hcz25_1
     try clear hcz28_0
     try clear hcz28_1
     try clear hcz30_0
     try clear hcz30_1
     try clear hcz35_0
     try clear hcz35_1
     try clear hfz13_0
     try clear hfz13_1
     try clear hfz15_0
     try clear hfz15_1
     try clear hfz17_0
     try clear hfz17_1
     try clear hfz21_0
     try clear hfz21_1
     try clear hfz23_0
     try clear hfz23_1
     try clear hfz25_0
     try clear hfz25_1
     try clear hfz28_0
     try clear hfz28_1
     try clear hfz30_0
     try clear hfz30_1
     try clear hfz35_0
     try clear hfz35_1
     try clear p2
     obtain ⟨x8_2, x9_2, rfl, rfl, HA, HK2, BK193, BK194, BK195, HB⟩ := hrel
     cases gk with
     | zero => exact absurd HA.out (by simp [spec_JoinTables.l0])
     | succ k2 =>
      have H := HA.out
      clear HA
      simp only [spec_JoinTables.l0] at H
      by_cases c36 : 0 ≤ a0_0
      ·rw [if_pos c36] at H
       have c36b0 := eq_true c36
       have c36b1 : decide (0 ≤ a0_0) = true := decide_eq_true c36
       clear c36
       obtain ⟨ji37, hji37⟩ : ∃ j_ : Int, (shl .i64 1 a0_0) = j_ := ⟨_, rfl⟩
       replace H : (if x9_2 < (ji37) then (if 0 ≤ x9_2 then ((spec_l3Insert.f x9_2 a2 0).bind fun t198 => (if 0 ≤ t198 then ((spec_l3Insert.f x9_2 a2 1).bind fun t199 => (if 0 ≤ t199 then (spec_JoinTables.l0 k2 a2 (Go.bits .or .i64 (Go.bits .or .i64 x8_2 (shl .i64 (Go.bits .and .i64 (shr .i64 a0_1 x9_2) 1) t198)) (shl .i64 (Go.bits .and .i64 (shr .i64 a1_1 x9_2) 1) t199)) (wrap64 (x9_2 + 1)) a0_0 a0_1 a1_0 a1_1) else (none))) else (none))) else (none)) else (some (wrap64 (a0_0 + 1), x8_2, true))) = some (r1, r2, r3) := by first | (rw [hji37] at H; exact H) | (simp only [hji37] at H ⊢; exact H)
       have hji37_ : (IntKind.i64.wrap (1 * 2 ^ min a0_0.toNat 64)) = ji37 := hji37
       have hji37z : a0_0 ≤ 64 → (IntKind.i64.wrap (1 * 2 ^ a0_0.toNat)) = ji37 := shl_small hji37
       have hji37u : (IntKind.i64.wrap (2 ^ min a0_0.toNat 64)) = ji37 := by have h_ := hji37_; rw [Int.one_mul] at h_; exact h_
       have hji37v : a0_0 ≤ 64 → (IntKind.i64.wrap (2 ^ a0_0.toNat)) = ji37 := fun hle_ => by have h_ := hji37z hle_; rw [Int.one_mul] at h_; exact h_
       have hji37y : (wrap64 (1 * 2 ^ min a0_0.toNat 64)) = ji37 := (i64_w _).symm.trans hji37_
       have hji37x : a0_0 ≤ 64 → (wrap64 (1 * 2 ^ a0_0.toNat)) = ji37 := fun h_ => (i64_w _).symm.trans (hji37z h_)
       by_cases c38 : x9_2 < (ji37)
       ·rw [if_pos c38] at H
        have c38b0 : decide (x9_2 < (ji37)) = true := decide_eq_true c38
        clear c38
        by_cases c39 : 0 ≤ x9_2
        ·rw [if_pos c39] at H
         have c39b0 := eq_true c39
         have c39b1 : decide (0 ≤ x9_2) = true := decide_eq_true c39
         clear c39
         obtain ⟨ji40, hji40⟩ : ∃ j_ : Int, (shr .i64 a0_1 x9_2) = j_ := ⟨_, rfl⟩
         replace H : ((spec_l3Insert.f x9_2 a2 0).bind fun t198 => (if 0 ≤ t198 then ((spec_l3Insert.f x9_2 a2 1).bind fun t199 => (if 0 ≤ t199 then (spec_JoinTables.l0 k2 a2 (Go.bits .or .i64 (Go.bits .or .i64 x8_2 (shl .i64 (Go.bits .and .i64 (ji40) 1) t198)) (shl .i64 (Go.bits .and .i64 (shr .i64 a1_1 x9_2) 1) t199)) (wrap64 (x9_2 + 1)) a0_0 a0_1 a1_0 a1_1) else (none))) else (none))) = some (r1, r2, r3) := by first | (rw [hji40] at H; exact H) | (simp only [hji40] at H ⊢; exact H)
         have hji40_ : (a0_1 / 2 ^ min x9_2.toNat 64) = ji40 := hji40
         have hji40z : x9_2 ≤ 64 → (a0_1 / 2 ^ x9_2.toNat) = ji40 := shr_small hji40
         replace H := Option.bind_eq_some_iff.mp H
         obtain ⟨t198, A410, H⟩ := H
         replace H : (if 0 ≤ t198 then ((spec_l3Insert.f x9_2 a2 1).bind fun t199 => (if 0 ≤ t199 then (spec_JoinTables.l0 k2 a2 (Go.bits .or .i64 (Go.bits .or .i64 x8_2 (shl .i64 (Go.bits .and .i64 (ji40) 1) t198)) (shl .i64 (Go.bits .and .i64 (shr .i64 a1_1 x9_2) 1) t199)) (wrap64 (x9_2 + 1)) a0_0 a0_1 a1_0 a1_1) else (none))) else (none)) = some (r1, r2, r3) := H
         have A41 := zA A410
         clear A410
         by_cases c42 : 0 ≤ t198
         ·rw [if_pos c42] at H
          have c42b0 := eq_true c42
          have c42b1 : decide (0 ≤ t198) = true := decide_eq_true c42
          clear c42
          obtain ⟨ji43, hji43⟩ : ∃ j_ : Int, (shl .i64 (Go.bits .and .i64 (ji40) 1) t198) = j_ := ⟨_, rfl⟩
          replace H : ((spec_l3Insert.f x9_2 a2 1).bind fun t199 => (if 0 ≤ t199 then (spec_JoinTables.l0 k2 a2 (Go.bits .or .i64 (Go.bits .or .i64 x8_2 (ji43)) (shl .i64 (Go.bits .and .i64 (shr .i64 a1_1 x9_2) 1) t199)) (wrap64 (x9_2 + 1)) a0_0 a0_1 a1_0 a1_1) else (none))) = some (r1, r2, r3) := by first | (rw [hji43] at H; exact H) | (simp only [hji43] at H ⊢; exact H)
          (try rw [hji43] at A41)
          have hji43_ : (IntKind.i64.wrap ((Go.bits .and .i64 (ji40) 1) * 2 ^ min t198.toNat 64)) = ji43 := hji43
          have hji43z : t198 ≤ 64 → (IntKind.i64.wrap ((Go.bits .and .i64 (ji40) 1) * 2 ^ t198.toNat)) = ji43 := shl_small hji43
          have hji43y : (wrap64 ((Go.bits .and .i64 (ji40) 1) * 2 ^ min t198.toNat 64)) = ji43 := (i64_w _).symm.trans hji43_
          have hji43x : t198 ≤ 64 → (wrap64 ((Go.bits .and .i64 (ji40) 1) * 2 ^ t198.toNat)) = ji43 := fun h_ => (i64_w _).symm.trans (hji43z h_)
          have c44b0 := eq_true (of_decide_eq_true (by first | (with_reducible assumption) | assumption) : 0 ≤ x9_2)
          obtain ⟨ji45, hji45⟩ : ∃ j_ : Int, (shr .i64 a1_1 x9_2) = j_ := ⟨_, rfl⟩
          replace H : ((spec_l3Insert.f x9_2 a2 1).bind fun t199 => (if 0 ≤ t199 then (spec_JoinTables.l0 k2 a2 (Go.bits .or .i64 (Go.bits .or .i64 x8_2 (ji43)) (shl .i64 (Go.bits .and .i64 (ji45) 1) t199)) (wrap64 (x9_2 + 1)) a0_0 a0_1 a1_0 a1_1) else (none))) = some (r1, r2, r3) := by first | (rw [hji45] at H; exact H) | (simp only [hji45] at H ⊢; exact H)
          (try rw [hji45] at A41)
          have hji45_ : (a1_1 / 2 ^ min x9_2.toNat 64) = ji45 := hji45
          have hji45z : x9_2 ≤ 64 → (a1_1 / 2 ^ x9_2.toNat) = ji45 := shr_small hji45
          replace H := Option.bind_eq_some_iff.mp H
          obtain ⟨t199, A460, H⟩ := H
          replace H : (if 0 ≤ t199 then (spec_JoinTables.l0 k2 a2 (Go.bits .or .i64 (Go.bits .or .i64 x8_2 (ji43)) (shl .i64 (Go.bits .and .i64 (ji45) 1) t199)) (wrap64 (x9_2 + 1)) a0_0 a0_1 a1_0 a1_1) else (none)) = some (r1, r2, r3) := H
          have A46 := zA A460
          clear A460
          by_cases c47 : 0 ≤ t199
          ·rw [if_pos c47] at H
           have c47b0 := eq_true c47
           have c47b1 : decide (0 ≤ t199) = true := decide_eq_true c47
           clear c47
           obtain ⟨ji48, hji48⟩ : ∃ j_ : Int, (shl .i64 (Go.bits .and .i64 (ji45) 1) t199) = j_ := ⟨_, rfl⟩
           replace H : (spec_JoinTables.l0 k2 a2 (Go.bits .or .i64 (Go.bits .or .i64 x8_2 (ji43)) (ji48)) (wrap64 (x9_2 + 1)) a0_0 a0_1 a1_0 a1_1) = some (r1, r2, r3) := by first | (rw [hji48] at H; exact H) | (simp only [hji48] at H ⊢; exact H)
           (try rw [hji48] at A41)
           (try rw [hji48] at A46)
           have hji48_ : (IntKind.i64.wrap ((Go.bits .and .i64 (ji45) 1) * 2 ^ min t199.toNat 64)) = ji48 := hji48
           have hji48z : t199 ≤ 64 → (IntKind.i64.wrap ((Go.bits .and .i64 (ji45) 1) * 2 ^ t199.toNat)) = ji48 := shl_small hji48
           have hji48y : (wrap64 ((Go.bits .and .i64 (ji45) 1) * 2 ^ min t199.toNat 64)) = ji48 := (i64_w _).symm.trans hji48_
           have hji48x : t199 ≤ 64 → (wrap64 ((Go.bits .and .i64 (ji45) 1) * 2 ^ t199.toNat)) = ji48 := fun h_ => (i64_w _).symm.trans (hji48z h_)
           have H' := zA H
           clear H
           have hnb49 := NB193_194.out
           have hnc49 := NB194_193.out
           have hnb50 := NB193_195.out
           have hnc50 := NB195_193.out
           have hcz51_0 := zc0 BK193
           have hcz51_1 := zc1 BK193
           have hfz51_0 := blk_frozen BK193.out 0
           have hfz51_1 := blk_frozen BK193.out 1
           go_wp2_with (first | (go_at_call 89; (with_reducible refine (spec_l3Insert.calls x9_2 a2 0 t198 _ A41.out).mono ?_); rintro e w' ⟨rfl, ⟨nd, rfl⟩⟩; (try first | exact ⟨rfl, _, World.drewN_drewN _ _ _⟩ | exact ⟨rfl, _, Eq.trans (World.drewN_drewN _ _ _) (congrArg (World.drewN _) (Nat.add_assoc _ _ _))⟩); have hnb52 := NB194_195.out; have hnc52 := NB195_194.out; have hcz53_0 := zc0 BK194; have hcz53_1 := zc1 BK194; have hfz53_0 := blk_frozen BK194.out 0; have hfz53_1 := blk_frozen BK194.out 1) | (go_at_call 89; (with_reducible refine (spec_l3Insert.calls x9_2 a2 1 t199 _ A46.out).mono ?_); rintro e w' ⟨rfl, ⟨nd, rfl⟩⟩; (try first | exact ⟨rfl, _, World.drewN_drewN _ _ _⟩ | exact ⟨rfl, _, Eq.trans (World.drewN_drewN _ _ _) (congrArg (World.drewN _) (Nat.add_assoc _ _ _))⟩)))
           repeat (go_quiet (first | (go_at_call 89; (with_reducible refine (spec_l3Insert.calls x9_2 a2 0 t198 _ A41.out).mono ?_); rintro e w' ⟨rfl, ⟨nd, rfl⟩⟩; (try first | exact ⟨rfl, _, World.drewN_drewN _ _ _⟩ | exact ⟨rfl, _, Eq.trans (World.drewN_drewN _ _ _) (congrArg (World.drewN _) (Nat.add_assoc _ _ _))⟩); have hnb52 := NB194_195.out; have hnc52 := NB195_194.out; have hcz53_0 := zc0 BK194; have hcz53_1 := zc1 BK194; have hfz53_0 := blk_frozen BK194.out 0; have hfz53_1 := blk_frozen BK194.out 1) | (go_at_call 89; (with_reducible refine (spec_l3Insert.calls x9_2 a2 1 t199 _ A46.out).mono ?_); rintro e w' ⟨rfl, ⟨nd, rfl⟩⟩; (try first | exact ⟨rfl, _, World.drewN_drewN _ _ _⟩ | exact ⟨rfl, _, Eq.trans (World.drewN_drewN _ _ _) (congrArg (World.drewN _) (Nat.add_assoc _ _ _))⟩))); try go_wp2_with (first | (go_at_call 89; (with_reducible refine (spec_l3Insert.calls x9_2 a2 0 t198 _ A41.out).mono ?_); rintro e w' ⟨rfl, ⟨nd, rfl⟩⟩; (try first | exact ⟨rfl, _, World.drewN_drewN _ _ _⟩ | exact ⟨rfl, _, Eq.trans (World.drewN_drewN _ _ _) (congrArg (World.drewN _) (Nat.add_assoc _ _ _))⟩); have hnb52 := NB194_195.out; have hnc52 := NB195_194.out; have hcz53_0 := zc0 BK194; have hcz53_1 := zc1 BK194; have hfz53_0 := blk_frozen BK194.out 0; have hfz53_1 := blk_frozen BK194.out 1) | (go_at_call 89; (with_reducible refine (spec_l3Insert.calls x9_2 a2 1 t199 _ A46.out).mono ?_); rintro e w' ⟨rfl, ⟨nd, rfl⟩⟩; (try first | exact ⟨rfl, _, World.drewN_drewN _ _ _⟩ | exact ⟨rfl, _, Eq.trans (World.drewN_drewN _ _ _) (congrArg (World.drewN _) (Nat.add_assoc _ _ _))⟩))))
           go_roundg k2
           case measure => have := HJ3.out; have := HK2.out; omega
           case rel => exact ⟨(Go.bits .or .i64 (Go.bits .or .i64 x8_2 (ji43)) (ji48)), (wrap64 (x9_2 + 1)), (by first | rfl | (simp; done) | (simp only [← hji43, ← hji48] <;> (first | rfl | simp)) | (simp [*]; done)), zS, H', ⟨by have := HJ3.out; have := HK2.out; omega⟩, ⟨zD BK193⟩, ⟨zD BK194⟩, ⟨zD BK195⟩, ⟨zB3 HB GE193 GE194 GE195⟩⟩
          ·rw [if_neg c47] at H
           exact absurd H (by simp)
         ·rw [if_neg c42] at H
          exact absurd H (by simp)
        ·rw [if_neg c39] at H
         exact absurd H (by simp)
       ·rw [if_neg c38] at H
        have c38b0 : decide (x9_2 < (ji37)) = false := decide_eq_false c38
        clear c38
        simp only [Option.some.injEq, Prod.mk.injEq] at H
        obtain ⟨rfl, rfl, rfl⟩ := H
        have hnb54 := NB193_194.out
        have hnc54 := NB194_193.out
        have hnb55 := NB193_195.out
        have hnc55 := NB195_193.out
        have hcz56_0 := zc0 BK193
        have hcz56_1 := zc1 BK193
        have hfz56_0 := blk_frozen BK193.out 0
        have hfz56_1 := blk_frozen BK193.out 1
        have hnb57 := NB195_194.out
        have hnc57 := NB194_195.out
        have hcz58_0 := zc0 BK195
        have hcz58_1 := zc1 BK195
        have hfz58_0 := blk_frozen BK195.out 0
        have hfz58_1 := blk_frozen BK195.out 1
        go_wp2
        repeat (go_quiet (fail); try go_wp2)
        refine bodyPost_ret (results_ct rfl _ _ gb195 23 #[.int .i64 (wrap64 (a0_0 + 1)), .int .i64 x8_2] (0, 0) _ rfl (zP BK195) Try.underlying23 rfl (by kernel_rfl)) rfl ?_
        exact ⟨by first | rfl | (simp [errW_none, errW_some] <;> rfl) | (simp only [← hji37]; first | rfl | (simp [errW_none, errW_some] <;> rfl)) | (simp [*, errW_none, errW_some] <;> rfl), zB3 HB GE193 GE194 GE195⟩
      ·rw [if_neg c36] at H
       exact absurd H (by simp)

/-! ### spec_ShiftTable: function 33 -/
def spec_ShiftTable.f (k : Nat) (a0_0 : Int) (a0_1 : Int) (a1 : Int) : Option (Int × Int × Bool) := (spec_IsTable.f a0_0 a0_1).bind fun t237 => (if t237 = true then (if 0 ≤ a0_0 then ((spec_l1In.f a1 0 (wrap64 ((shl .i64 1 a0_0) - 1))).bind fun t238 => (if t238 = true then ((spec_l3Shift.f k a0_0 a0_1 a1).bind fun bt239 => (some (bt239.1, bt239.2, true))) else (some (0, 0, false)))) else (none)) else (some (0, 0, false)))
theorem spec_ShiftTable.mono : ∀ a0 a1 a2 k, LeO (spec_ShiftTable.f k a0 a1 a2) (spec_ShiftTable.f (k + 1) a0 a1 a2) := by
 intro a0 a1 a2 k
 unfold spec_ShiftTable.f
 repeat' first
   | (with_reducible exact spec_l3Shift.mono _ _ _ _)
   | (with_reducible exact LeO.refl _)
   | (with_reducible exact LeO.none _)
   | (with_reducible refine LeO.ite ?_ ?_)
   | (with_reducible refine LeO.bind ?_ (fun _ => ?_))
   | exact spec_l3Shift.mono _ _ _ _
   | exact LeO.none _
   | refine LeO.ite ?_ ?_
   | refine LeO.bind ?_ (fun _ => ?_)
set_option maxHeartbeats 8000000 in
set_option maxRecDepth 100000 in
theorem spec_ShiftTable.calls (k : Nat) (a0_0 : Int) (a0_1 : Int) (a1 : Int) (r1 : Int) (r2 : Int) (r3 : Bool) (w : World) (h : spec_ShiftTable.f k a0_0 a0_1 a1 = some (r1, r2, r3)) :
  Calls Try.prog 33 #[.agg #[.int .i64 a0_0, .int .i64 a0_1], .int .i64 a1] w fun e w' => e = .returned (.tuple #[.agg #[.int .i64 r1, .int .i64 r2], .bool r3]) ∧ Below w.heap.size w w' := by
 have hu23 := Try.underlying23
 have HB := zA (Below.refl w.heap.size w)
 have H := h
 unfold spec_ShiftTable.f at H
 clear h
 replace H := Option.bind_eq_some_iff.mp H
 obtain ⟨t237, A30, H⟩ := H
 replace H : (if t237 = true then (if 0 ≤ a0_0 then ((spec_l1In.f a1 0 (wrap64 ((shl .i64 1 a0_0) - 1))).bind fun t238 => (if t238 = true then ((spec_l3Shift.f k a0_0 a0_1 a1).bind fun bt239 => (some (bt239.1, bt239.2, true))) else (some (0, 0, false)))) else (none)) else (some (0, 0, false))) = some (r1, r2, r3) := H
 have A3 := zA A30
 clear A30
 by_cases c4 : t237 = true
 ·subst c4
  have H1 : (if 0 ≤ a0_0 then ((spec_l1In.f a1 0 (wrap64 ((shl .i64 1 a0_0) - 1))).bind fun t238 => (if t238 = true then ((spec_l3Shift.f k a0_0 a0_1 a1).bind fun bt239 => (some (bt239.1, bt239.2, true))) else (some (0, 0, false)))) else (none)) = some (r1, r2, r3) := by rw [if_pos rfl] at H; exact H
  clear H
  have H := H1
  clear H1
  by_cases c5 : 0 ≤ a0_0
  ·rw [if_pos c5] at H
   have c5b0 := eq_true c5
   have c5b1 : decide (0 ≤ a0_0) = true := decide_eq_true c5
   clear c5
   obtain ⟨ji6, hji6⟩ : ∃ j_ : Int, (shl .i64 1 a0_0) = j_ := ⟨_, rfl⟩
   replace H : ((spec_l1In.f a1 0 (wrap64 ((ji6) - 1))).bind fun t238 => (if t238 = true then ((spec_l3Shift.f k a0_0 a0_1 a1).bind fun bt239 => (some (bt239.1, bt239.2, true))) else (some (0, 0, false)))) = some (r1, r2, r3) := by first | (rw [hji6] at H; exact H) | (simp only [hji6] at H ⊢; exact H)
   (try rw [hji6] at A3)
   have hji6_ : (IntKind.i64.wrap (1 * 2 ^ min a0_0.toNat 64)) = ji6 := hji6
   have hji6z : a0_0 ≤ 64 → (IntKind.i64.wrap (1 * 2 ^ a0_0.toNat)) = ji6 := shl_small hji6
   have hji6u : (IntKind.i64.wrap (2 ^ min a0_0.toNat 64)) = ji6 := by have h_ := hji6_; rw [Int.one_mul] at h_; exact h_
   have hji6v : a0_0 ≤ 64 → (IntKind.i64.wrap (2 ^ a0_0.toNat)) = ji6 := fun hle_ => by have h_ := hji6z hle_; rw [Int.one_mul] at h_; exact h_
   have hji6y : (wrap64 (1 * 2 ^ min a0_0.toNat 64)) = ji6 := (i64_w _).symm.trans hji6_
   have hji6x : a0_0 ≤ 64 → (wrap64 (1 * 2 ^ a0_0.toNat)) = ji6 := fun h_ => (i64_w _).symm.trans (hji6z h_)
   replace H := Option.bind_eq_some_iff.mp H
   obtain ⟨t238, A70, H⟩ := H
   replace H : (if t238 = true then ((spec_l3Shift.f k a0_0 a0_1 a1).bind fun bt239 => (some (bt239.1, bt239.2, true))) else (some (0, 0, false))) = some (r1, r2, r3) := H
   have A7 := zA A70
   clear A70
   by_cases c8 : t238 = true
   ·subst c8
    have H1 : ((spec_l3Shift.f k a0_0 a0_1 a1).bind fun bt239 => (some (bt239.1, bt239.2, true))) = some (r1, r2, r3) := by rw [if_pos rfl] at H; exact H
    clear H
    have H := H1
    clear H1
    replace H := Option.bind_eq_some_iff.mp H
    obtain ⟨⟨t239, t240⟩, A90, H⟩ := H
    replace H : (some (t239, t240, true)) = some (r1, r2, r3) := H
    have A9 := zA A90
    clear A90
    simp only [Option.some.injEq, Prod.mk.injEq] at H
    obtain ⟨rfl, rfl, rfl⟩ := H
    go_enter Try.func33, Try.ntmps33
    go_wp2_with (first | ((with_reducible refine gate_dst (N := 2) rfl ?_); refine box_event ?hg (N := 2) ?hd (cs := #[.int .i64 a0_0, .int .i64 a0_1]) (t := 23) ?hr ?_; (case hd => rfl); (case hg => rfl); (case hr => exact zH); intro gb235 hg w10 hbox hb; have BK235 := zA (hbox); have GW235 := zg HB hg; have GE235 := zg HB hg; replace HB := zA (below_step (zB HB) hb); clear hb hbox hg) | ((with_reducible refine gate_dst (N := 4) rfl ?_); refine box_event ?hg (N := 4) ?hd (cs := #[.int .i64 0, .int .i64 0]) (t := 23) ?hr ?_; (case hd => rfl); (case hg => rfl); (case hr => exact zH); intro gb236 hg w11 hbox hb; have BK236 := zA (hbox); have GW236 := zg1 HB GE235 hg; have GE236 := zg1 HB GE235 hg; have NB235_236 := zn BK235 hg; have NB236_235 := zo BK235 hg; replace BK235 := zb BK235 hb; replace HB := zA (below_step (zB1 HB GE235) hb); clear hb hbox hg; have hnb12 := NB235_236.out; have hnc12 := NB236_235.out; have hcz13_0 := zc0 BK235; have hcz13_1 := zc1 BK235; have hfz13_0 := blk_frozen BK235.out 0; have hfz13_1 := blk_frozen BK235.out 1) | ((with_reducible refine gate_callee (f := 78) rfl ?_); refine goesL_ (some 7) rfl rfl Try.func78 (by kernel_rfl) rfl #[.agg #[.int .i64 a0_0, .int .i64 a0_1]] rfl zM ?_; (with_reducible refine (spec_IsTable.calls a0_0 a0_1 true _ A3.out).mono ?_); rintro e w14 ⟨rfl, hb⟩; refine ⟨_, rfl, ?_⟩; replace BK235 := zb BK235 hb; replace BK236 := zb BK236 hb; replace HB := zA (below_step (zB2 HB GE235 GE236) hb); (try clear hb); (try clear hb2); (try clear hk); (try clear hi); have hcz15_0 := zc0 BK235; have hcz15_1 := zc1 BK235; have hfz15_0 := blk_frozen BK235.out 0; have hfz15_1 := blk_frozen BK235.out 1) | (go_at_call 74; (with_reducible refine (spec_l1In.calls a1 0 (wrap64 ((ji6) - 1)) true _ A7.out).mono ?_); rintro e w' ⟨rfl, ⟨nd, rfl⟩⟩; (try (rw [drewN_self w14]; generalize hq_ : World.drewN w14 _ = w14; have n0_ : Aside0 (w14.heap[gb235]? = some (.cells #[.int .i64 a0_0, .int .i64 a0_1] 23 (0, 0))) := ⟨by rw [← hq_]; exact (zD BK235)⟩; have n1_ : Aside0 (w14.heap[gb236]? = some (.cells #[.int .i64 0, .int .i64 0] 23 (0, 0))) := ⟨by rw [← hq_]; exact (zD BK236)⟩; have n2_ : Aside0 (Below w.heap.size w w14) := ⟨by rw [← hq_]; exact (zB2 HB GE235 GE236)⟩; clear BK235 BK236 HB hq_; have BK235 := n0_; have BK236 := n1_; have HB := n2_; clear n0_ n1_ n2_)); (try (have hcz15_0 := zc0 BK235; have hfz15_0 := blk_frozen BK235.out 0; have hcz15_1 := zc1 BK235; have hfz15_1 := blk_frozen BK235.out 1))) | ((with_reducible refine gate_callee (f := 94) rfl ?_); refine goesL_ (some 21) rfl rfl Try.func94 (by kernel_rfl) rfl #[.agg #[.int .i64 a0_0, .int .i64 a0_1], .int .i64 a1] rfl zM ?_; (with_reducible refine (spec_l3Shift.calls k a0_0 a0_1 a1 t239 t240 _ A9.out).mono ?_); rintro e w16 ⟨rfl, hb⟩; refine ⟨_, rfl, ?_⟩; replace BK235 := zb BK235 hb; replace BK236 := zb BK236 hb; replace HB := zA (below_step (zB2 HB GE235 GE236) hb); (try clear hb); (try clear hb2); (try clear hk); (try clear hi); have hcz17_0 := zc0 BK236; have hcz17_1 := zc1 BK236; have hfz17_0 := blk_frozen BK236.out 0; have hfz17_1 := blk_frozen BK236.out 1))
    refine bodyPost_ret (results_ct rfl _ _ gb236 23 #[.int .i64 t239, .int .i64 t240] (0, 0) _ rfl (zP BK236) Try.underlying23 rfl (by kernel_rfl)) rfl ?_
    exact ⟨by first | rfl | (simp [errW_none, errW_some] <;> rfl) | (simp only [← hji6]; first | rfl | (simp [errW_none, errW_some] <;> rfl)) | (simp [*, errW_none, errW_some] <;> rfl), zB2 HB GE235 GE236⟩
   ·replace c8 := Bool.eq_false_iff.mpr c8
    subst c8
    have H1 : (some (0, 0, false)) = some (r1, r2, r3) := by rw [if_neg (show ¬ (false = true) by decide)] at H; exact H
    clear H
    have H := H1
    clear H1
    simp only [Option.some.injEq, Prod.mk.injEq] at H
    obtain ⟨rfl, rfl, rfl⟩ := H
    go_enter Try.func33, Try.ntmps33
    go_wp2_with (first | ((with_reducible refine gate_dst (N := 2) rfl ?_); refine box_event ?hg (N := 2) ?hd (cs := #[.int .i64 a0_0, .int .i64 a0_1]) (t := 23) ?hr ?_; (case hd => rfl); (case hg => rfl); (case hr => exact zH); intro gb235 hg w18 hbox hb; have BK235 := zA (hbox); have GW235 := zg HB hg; have GE235 := zg HB hg; replace HB := zA (below_step (zB HB) hb); clear hb hbox hg) | ((with_reducible refine gate_dst (N := 4) rfl ?_); refine box_event ?hg (N := 4) ?hd (cs := #[.int .i64 0, .int .i64 0]) (t := 23) ?hr ?_; (case hd => rfl); (case hg => rfl); (case hr => exact zH); intro gb236 hg w19 hbox hb; have BK236 := zA (hbox); have GW236 := zg1 HB GE235 hg; have GE236 := zg1 HB GE235 hg; have NB235_236 := zn BK235 hg; have NB236_235 := zo BK235 hg; replace BK235 := zb BK235 hb; replace HB := zA (below_step (zB1 HB GE235) hb); clear hb hbox hg; have hnb20 := NB235_236.out; have hnc20 := NB236_235.out; have hcz21_0 := zc0 BK235; have hcz21_1 := zc1 BK235; have hfz21_0 := blk_frozen BK235.out 0; have hfz21_1 := blk_frozen BK235.out 1) | ((with_reducible refine gate_callee (f := 78) rfl ?_); refine goesL_ (some 7) rfl rfl Try.func78 (by kernel_rfl) rfl #[.agg #[.int .i64 a0_0, .int .i64 a0_1]] rfl zM ?_; (with_reducible refine (spec_IsTable.calls a0_0 a0_1 true _ A3.out).mono ?_); rintro e w22 ⟨rfl, hb⟩; refine ⟨_, rfl, ?_⟩; replace BK235 := zb BK235 hb; replace BK236 := zb BK236 hb; replace HB := zA (below_step (zB2 HB GE235 GE236) hb); (try clear hb); (try clear hb2); (try clear hk); (try clear hi); have hcz23_0 := zc0 BK235; have hcz23_1 := zc1 BK235; have hfz23_0 := blk_frozen BK235.out 0; have hfz23_1 := blk_frozen BK235.out 1) | (go_at_call 74; (with_reducible refine (spec_l1In.calls a1 0 (wrap64 ((ji6) - 1)) false _ A7.out).mono ?_); rintro e w' ⟨rfl, ⟨nd, rfl⟩⟩; (try (rw [drewN_self w22]; generalize hq_ : World.drewN w22 _ = w22; have n0_ : Aside0 (w22.heap[gb235]? = some (.cells #[.int .i64 a0_0, .int .i64 a0_1] 23 (0, 0))) := ⟨by rw [← hq_]; exact (zD BK235)⟩; have n1_ : Aside0 (w22.heap[gb236]? = some (.cells #[.int .i64 0, .int .i64 0] 23 (0, 0))) := ⟨by rw [← hq_]; exact (zD BK236)⟩; have n2_ : Aside0 (Below w.heap.size w w22) := ⟨by rw [← hq_]; exact (zB2 HB GE235 GE236)⟩; clear BK235 BK236 HB hq_; have BK235 := n0_; have BK236 := n1_; have HB := n2_; clear n0_ n1_ n2_)); (try (have hcz23_0 := zc0 BK235; have hfz23_0 := blk_frozen BK235.out 0; have hcz23_1 := zc1 BK235; have hfz23_1 := blk_frozen BK235.out 1)); have hcz24_0 := zc0 BK236; have hcz24_1 := zc1 BK236; have hfz24_0 := blk_frozen BK236.out 0; have hfz24_1 := blk_frozen BK236.out 1))
    refine bodyPost_ret (results_ct rfl _ _ gb236 23 #[.int .i64 0, .int .i64 0] (0, 0) _ rfl (zP BK236) Try.underlying23 rfl (by kernel_rfl)) rfl ?_
    exact ⟨by first | rfl | (simp [errW_none, errW_some] <;> rfl) | (simp only [← hji6]; first | rfl | (simp [errW_none, errW_some] <;> rfl)) | (simp [*, errW_none, errW_some] <;> rfl), zB2 HB GE235 GE236⟩
  ·rw [if_neg c5] at H
   exact absurd H (by simp)
 ·replace c4 := Bool.eq_false_iff.mpr c4
  subst c4
  have H1 : (some (0, 0, false)) = some (r1, r2, r3) := by rw [if_neg (show ¬ (false = true) by decide)] at H; exact H
  clear H
  have H := H1
  clear H1
  simp only [Option.some.injEq, Prod.mk.injEq] at H
  obtain ⟨rfl, rfl, rfl⟩ := H
  go_enter Try.func33, Try.ntmps33
  go_wp2_with (first | ((with_reducible refine gate_dst (N := 2) rfl ?_); refine box_event ?hg (N := 2) ?hd (cs := #[.int .i64 a0_0, .int .i64 a0_1]) (t := 23) ?hr ?_; (case hd => rfl); (case hg => rfl); (case hr => exact zH); intro gb235 hg w25 hbox hb; have BK235 := zA (hbox); have GW235 := zg HB hg; have GE235 := zg HB hg; replace HB := zA (below_step (zB HB) hb); clear hb hbox hg) | ((with_reducible refine gate_dst (N := 4) rfl ?_); refine box_event ?hg (N := 4) ?hd (cs := #[.int .i64 0, .int .i64 0]) (t := 23) ?hr ?_; (case hd => rfl); (case hg => rfl); (case hr => exact zH); intro gb236 hg w26 hbox hb; have BK236 := zA (hbox); have GW236 := zg1 HB GE235 hg; have GE236 := zg1 HB GE235 hg; have NB235_236 := zn BK235 hg; have NB236_235 := zo BK235 hg; replace BK235 := zb BK235 hb; replace HB := zA (below_step (zB1 HB GE235) hb); clear hb hbox hg; have hnb27 := NB235_236.out; have hnc27 := NB236_235.out; have hcz28_0 := zc0 BK235; have hcz28_1 := zc1 BK235; have hfz28_0 := blk_frozen BK235.out 0; have hfz28_1 := blk_frozen BK235.out 1) | ((with_reducible refine gate_callee (f := 78) rfl ?_); refine goesL_ (some 7) rfl rfl Try.func78 (by kernel_rfl) rfl #[.agg #[.int .i64 a0_0, .int .i64 a0_1]] rfl zM ?_; (with_reducible refine (spec_IsTable.calls a0_0 a0_1 false _ A3.out).mono ?_); rintro e w29 ⟨rfl, hb⟩; refine ⟨_, rfl, ?_⟩; replace BK235 := zb BK235 hb; replace BK236 := zb BK236 hb; replace HB := zA (below_step (zB2 HB GE235 GE236) hb); (try clear hb); (try clear hb2); (try clear hk); (try clear hi); have hcz30_0 := zc0 BK236; have hcz30_1 := zc1 BK236; have hfz30_0 := blk_frozen BK236.out 0; have hfz30_1 := blk_frozen BK236.out 1))
  refine bodyPost_ret (results_ct rfl _ _ gb236 23 #[.int .i64 0, .int .i64 0] (0, 0) _ rfl (zP BK236) Try.underlying23 rfl (by kernel_rfl)) rfl ?_
  exact ⟨by first | rfl | (simp [errW_none, errW_some] <;> rfl) | (simp [*, errW_none, errW_some] <;> rfl), zB2 HB GE235 GE236⟩

/-! ### impl_ShiftTable: function 34 -/
def impl_ShiftTable.f (a0_0 : Int) (a0_1 : Int) (a1 : Int) : Option (Int × Int × Bool) := (impl_hasInput.f a0_0 a0_1 a1).bind fun t246 => (if t246 = true then ((impl_Table_shift.f a0_0 a0_1 a1).bind fun bt247 => (some (bt247.1, bt247.2, true))) else (some (0, 0, false)))
set_option maxHeartbeats 8000000 in
set_option maxRecDepth 100000 in
theorem impl_ShiftTable.calls (a0_0 : Int) (a0_1 : Int) (a1 : Int) (r1 : Int) (r2 : Int) (r3 : Bool) (w : World) (h : impl_ShiftTable.f a0_0 a0_1 a1 = some (r1, r2, r3)) :
  Calls Try.prog 34 #[.agg #[.int .i64 a0_0, .int .i64 a0_1], .int .i64 a1] w fun e w' => e = .returned (.tuple #[.agg #[.int .i64 r1, .int .i64 r2], .bool r3]) ∧ Below w.heap.size w w' := by
 have hu23 := Try.underlying23
 have HB := zA (Below.refl w.heap.size w)
 have H := h
 unfold impl_ShiftTable.f at H
 clear h
 replace H := Option.bind_eq_some_iff.mp H
 obtain ⟨t246, A30, H⟩ := H
 replace H : (if t246 = true then ((impl_Table_shift.f a0_0 a0_1 a1).bind fun bt247 => (some (bt247.1, bt247.2, true))) else (some (0, 0, false))) = some (r1, r2, r3) := H
 have A3 := zA A30
 clear A30
 by_cases c4 : t246 = true
 ·subst c4
  have H1 : ((impl_Table_shift.f a0_0 a0_1 a1).bind fun bt247 => (some (bt247.1, bt247.2, true))) = some (r1, r2, r3) := by rw [if_pos rfl] at H; exact H
  clear H
  have H := H1
  clear H1
  replace H := Option.bind_eq_some_iff.mp H
  obtain ⟨⟨t247, t248⟩, A50, H⟩ := H
  replace H : (some (t247, t248, true)) = some (r1, r2, r3) := H
  have A5 := zA A50
  clear A50
  simp only [Option.some.injEq, Prod.mk.injEq] at H
  obtain ⟨rfl, rfl, rfl⟩ := H
  go_enter Try.func34, Try.ntmps34
  go_wp2_with (first | ((with_reducible refine gate_dst (N := 2) rfl ?_); refine box_event ?hg (N := 2) ?hd (cs := #[.int .i64 a0_0, .int .i64 a0_1]) (t := 23) ?hr ?_; (case hd => rfl); (case hg => rfl); (case hr => exact zH); intro gb244 hg w6 hbox hb; have BK244 := zA (hbox); have GW244 := zg HB hg; have GE244 := zg HB hg; replace HB := zA (below_step (zB HB) hb); clear hb hbox hg) | ((with_reducible refine gate_dst (N := 4) rfl ?_); refine box_event ?hg (N := 4) ?hd (cs := #[.int .i64 0, .int .i64 0]) (t := 23) ?hr ?_; (case hd => rfl); (case hg => rfl); (case hr => exact zH); intro gb245 hg w7 hbox hb; have BK245 := zA (hbox); have GW245 := zg1 HB GE244 hg; have GE245 := zg1 HB GE244 hg; have NB244_245 := zn BK244 hg; have NB245_244 := zo BK244 hg; replace BK244 := zb BK244 hb; replace HB := zA (below_step (zB1 HB GE244) hb); clear hb hbox hg; have hnb8 := NB244_245.out; have hnc8 := NB245_244.out; have hcz9_0 := zc0 BK244; have hcz9_1 := zc1 BK244; have hfz9_0 := blk_frozen BK244.out 0; have hfz9_1 := blk_frozen BK244.out 1) | ((with_reducible refine gate_callee (f := 95) rfl ?_); refine goesL_ (some 8) rfl rfl Try.func95 (by kernel_rfl) rfl #[.agg #[.int .i64 a0_0, .int .i64 a0_1], .int .i64 a1] rfl zM ?_; (with_reducible refine (impl_hasInput.calls a0_0 a0_1 a1 true _ A3.out).mono ?_); rintro e w10 ⟨rfl, hb⟩; refine ⟨_, rfl, ?_⟩; replace BK244 := zb BK244 hb; replace BK245 := zb BK245 hb; replace HB := zA (below_step (zB2 HB GE244 GE245) hb); (try clear hb); (try clear hb2); (try clear hk); (try clear hi); have hcz11_0 := zc0 BK244; have hcz11_1 := zc1 BK244; have hfz11_0 := blk_frozen BK244.out 0; have hfz11_1 := blk_frozen BK244.out 1) | ((with_reducible refine gate_callee (f := 96) rfl ?_); refine goesL_ (some 13) rfl rfl Try.func96 (by kernel_rfl) rfl #[.agg #[.int .i64 a0_0, .int .i64 a0_1], .int .i64 a1] rfl zM ?_; (with_reducible refine (impl_Table_shift.calls a0_0 a0_1 a1 t247 t248 _ A5.out).mono ?_); rintro e w12 ⟨rfl, hb⟩; refine ⟨_, rfl, ?_⟩; replace BK244 := zb BK244 hb; replace BK245 := zb BK245 hb; replace HB := zA (below_step (zB2 HB GE244 GE245) hb); (try clear hb); (try clear hb2); (try clear hk); (try clear hi); have hcz13_0 := zc0 BK245; have hcz13_1 := zc1 BK245; have hfz13_0 := blk_frozen BK245.out 0; have hfz13_1 := blk_frozen BK245.out 1))
  refine bodyPost_ret (results_ct rfl _ _ gb245 23 #[.int .i64 t247, .int .i64 t248] (0, 0) _ rfl (zP BK245) Try.underlying23 rfl (by kernel_rfl)) rfl ?_
  exact ⟨by first | rfl | (simp [errW_none, errW_some] <;> rfl) | (simp [*, errW_none, errW_some] <;> rfl), zB2 HB GE244 GE245⟩
 ·replace c4 := Bool.eq_false_iff.mpr c4
  subst c4
  have H1 : (some (0, 0, false)) = some (r1, r2, r3) := by rw [if_neg (show ¬ (false = true) by decide)] at H; exact H
  clear H
  have H := H1
  clear H1
  simp only [Option.some.injEq, Prod.mk.injEq] at H
  obtain ⟨rfl, rfl, rfl⟩ := H
  go_enter Try.func34, Try.ntmps34
  go_wp2_with (first | ((with_reducible refine gate_dst (N := 2) rfl ?_); refine box_event ?hg (N := 2) ?hd (cs := #[.int .i64 a0_0, .int .i64 a0_1]) (t := 23) ?hr ?_; (case hd => rfl); (case hg => rfl); (case hr => exact zH); intro gb244 hg w14 hbox hb; have BK244 := zA (hbox); have GW244 := zg HB hg; have GE244 := zg HB hg; replace HB := zA (below_step (zB HB) hb); clear hb hbox hg) | ((with_reducible refine gate_dst (N := 4) rfl ?_); refine box_event ?hg (N := 4) ?hd (cs := #[.int .i64 0, .int .i64 0]) (t := 23) ?hr ?_; (case hd => rfl); (case hg => rfl); (case hr => exact zH); intro gb245 hg w15 hbox hb; have BK245 := zA (hbox); have GW245 := zg1 HB GE244 hg; have GE245 := zg1 HB GE244 hg; have NB244_245 := zn BK244 hg; have NB245_244 := zo BK244 hg; replace BK244 := zb BK244 hb; replace HB := zA (below_step (zB1 HB GE244) hb); clear hb hbox hg; have hnb16 := NB244_245.out; have hnc16 := NB245_244.out; have hcz17_0 := zc0 BK244; have hcz17_1 := zc1 BK244; have hfz17_0 := blk_frozen BK244.out 0; have hfz17_1 := blk_frozen BK244.out 1) | ((with_reducible refine gate_callee (f := 95) rfl ?_); refine goesL_ (some 8) rfl rfl Try.func95 (by kernel_rfl) rfl #[.agg #[.int .i64 a0_0, .int .i64 a0_1], .int .i64 a1] rfl zM ?_; (with_reducible refine (impl_hasInput.calls a0_0 a0_1 a1 false _ A3.out).mono ?_); rintro e w18 ⟨rfl, hb⟩; refine ⟨_, rfl, ?_⟩; replace BK244 := zb BK244 hb; replace BK245 := zb BK245 hb; replace HB := zA (below_step (zB2 HB GE244 GE245) hb); (try clear hb); (try clear hb2); (try clear hk); (try clear hi); have hcz19_0 := zc0 BK245; have hcz19_1 := zc1 BK245; have hfz19_0 := blk_frozen BK245.out 0; have hfz19_1 := blk_frozen BK245.out 1))
  refine bodyPost_ret (results_ct rfl _ _ gb245 23 #[.int .i64 0, .int .i64 0] (0, 0) _ rfl (zP BK245) Try.underlying23 rfl (by kernel_rfl)) rfl ?_
  exact ⟨by first | rfl | (simp [errW_none, errW_some] <;> rfl) | (simp [*, errW_none, errW_some] <;> rfl), zB2 HB GE244 GE245⟩

end Go.Proofs.Ytijpcemcijaeeaa.P
