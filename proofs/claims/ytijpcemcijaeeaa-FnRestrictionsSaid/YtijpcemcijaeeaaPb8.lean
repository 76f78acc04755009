/- The functions that this seat's laws reach, each as a plain Lean function, and the walk of each; written by a program over the kit's print. No conditions but those that stand in the theorems. -/
import Derived.Test.YtijpcemcijaeeaaP0
import Derived.Test.YtijpcemcijaeeaaPb5
import Derived.Test.YtijpcemcijaeeaaPb6
import Derived.Test.YtijpcemcijaeeaaK8
import Derived.Test.YtijpcemcijaeeaaK6
namespace Go.Proofs.Ytijpcemcijaeeaa.P
open Go.RowKit Go.Proofs.YtijpcemcijaeeaaW.PrintWords Go.Proofs.YtijpcemcijaeeaaW.PrintLast Go.Proofs.YtijpcemcijaeeaaW.PrintMore
attribute [local go_sem] max2_int min2_int max_two min_two max_three min_three max_four min_four   -- for this text's walks alone
set_option linter.unusedVariables false
set_option linter.unusedSimpArgs false

attribute [local go_sem] fld23_0 fld23_1
/-! ### spec_l2Two: function 125 -/
def spec_l2Two.j0 : Nat → Bool → List Int → Int → Int → Int → Int → Option (Int × Int × Int × Int)
 | 0, _, _, _, _, _, _ => none
 | k + 1, x16, x723000, x723001, x723002, x728000, x728001 => if x16 = true then ((spec_l2Draw.f k x723000 x723001 x723002 x728000).bind fun bt732 => (some (x728000, x728001, bt732.1, bt732.2.1))) else ((spec_l2Any.f k x723000 x723001 x723002).bind fun bt736 => (some (x728000, x728001, bt736.1, bt736.2.1)))
def spec_l2Two.f (k : Nat) (l0 : List Int) : Option (Int × Int × Int × Int) := (spec_l1New.f k l0).bind fun bt719 => ((spec_l2Any.f k bt719.1 bt719.2.1 bt719.2.2).bind fun bt723 => ((spec_IsTable.f bt723.1 bt723.2.1).bind fun t728 => (if t728 = true then ((spec_l1Once.f bt719.1 bt723.2.2.1 bt723.2.2.2 6).bind fun bt729 => (spec_l2Two.j0 k (!bt729.1) bt719.1 bt729.2.1 bt729.2.2 bt723.1 bt723.2.1)) else (spec_l2Two.j0 k false bt719.1 bt723.2.2.1 bt723.2.2.2 bt723.1 bt723.2.1))))
theorem spec_l2Two.mono_l : ∀ k, (∀ y0 y1 y2 y3 y4 y5, LeO (spec_l2Two.j0 k y0 y1 y2 y3 y4 y5) (spec_l2Two.j0 (k + 1) y0 y1 y2 y3 y4 y5))
 | 0 => fun _ _ _ _ _ _ r h => by simp [spec_l2Two.j0] at h
 | k + 1 => by
  have ih0 := spec_l2Two.mono_l k
  ·intro y0 y1 y2 y3 y4 y5
   unfold spec_l2Two.j0
   repeat' first
   | (with_reducible exact ih0 _ _ _ _ _ _)
   | (with_reducible exact spec_l1New.mono _ _)
   | (with_reducible exact spec_l2Any.mono _ _ _ _)
   | (with_reducible exact spec_l2Draw.mono _ _ _ _ _)
   | (with_reducible exact LeO.refl _)
   | (with_reducible exact LeO.none _)
   | (with_reducible refine LeO.ite ?_ ?_)
   | (with_reducible refine LeO.bind ?_ (fun _ => ?_))
   | exact ih0 _ _ _ _ _ _
   | exact spec_l1New.mono _ _
   | exact spec_l2Any.mono _ _ _ _
   | exact spec_l2Draw.mono _ _ _ _ _
   | exact LeO.none _
   | refine LeO.ite ?_ ?_
   | refine LeO.bind ?_ (fun _ => ?_)
theorem spec_l2Two.mono : ∀ a0 k, LeO (spec_l2Two.f k a0) (spec_l2Two.f (k + 1) a0) := by
 intro a0 k
 have ih0 := spec_l2Two.mono_l k
 unfold spec_l2Two.f
 repeat' first
   | (with_reducible exact ih0 _ _ _ _ _ _)
   | (with_reducible exact spec_l1New.mono _ _)
   | (with_reducible exact spec_l2Any.mono _ _ _ _)
   | (with_reducible exact spec_l2Draw.mono _ _ _ _ _)
   | (with_reducible exact LeO.refl _)
   | (with_reducible exact LeO.none _)
   | (with_reducible refine LeO.ite ?_ ?_)
   | (with_reducible refine LeO.bind ?_ (fun _ => ?_))
   | exact ih0 _ _ _ _ _ _
   | exact spec_l1New.mono _ _
   | exact spec_l2Any.mono _ _ _ _
   | exact spec_l2Draw.mono _ _ _ _ _
   | exact LeO.none _
   | refine LeO.ite ?_ ?_
   | refine LeO.bind ?_ (fun _ => ?_)
set_option maxHeartbeats 8000000 in
set_option maxRecDepth 100000 in
theorem spec_l2Two.calls (k : Nat) (A0 : Option Addr) (c0 : Nat) (l0 : List Int) (r1 : Int) (r2 : Int) (r3 : Int) (r4 : Int) (w : World) (hr0 : Kd.C (Kd.int .u8) w A0 l0.length l0) (hc0 : l0.length ≤ c0) (h : spec_l2Two.f k l0 = some (r1, r2, r3, r4)) :
  Calls Try.prog 125 #[.slice A0 l0.length c0] w fun e w' => e = .returned (.tuple #[.agg #[.int .i64 r1, .int .i64 r2], .agg #[.int .i64 r3, .int .i64 r4]]) ∧ Below w.heap.size w w' := by
 have hu23 := Try.underlying23
 have HR0 := zA hr0
 have HC0 := zA hc0
 clear hr0 hc0
 have HB := zA (Below.refl w.heap.size w)
 have H := h
 unfold spec_l2Two.f at H
 clear h
 replace H := Option.bind_eq_some_iff.mp H
 obtain ⟨⟨t719, t720, t721⟩, A20, H⟩ := H
 replace H : ((spec_l2Any.f k t719 t720 t721).bind fun bt723 => ((spec_IsTable.f bt723.1 bt723.2.1).bind fun t728 => (if t728 = true then ((spec_l1Once.f t719 bt723.2.2.1 bt723.2.2.2 6).bind fun bt729 => (spec_l2Two.j0 k (!bt729.1) t719 bt729.2.1 bt729.2.2 bt723.1 bt723.2.1)) else (spec_l2Two.j0 k false t719 bt723.2.2.1 bt723.2.2.2 bt723.1 bt723.2.1)))) = some (r1, r2, r3, r4) := H
 have A2 := zA A20
 clear A20
 replace H := Option.bind_eq_some_iff.mp H
 obtain ⟨⟨t723, t724, t725, t726⟩, A30, H⟩ := H
 replace H : ((spec_IsTable.f t723 t724).bind fun t728 => (if t728 = true then ((spec_l1Once.f t719 t725 t726 6).bind fun bt729 => (spec_l2Two.j0 k (!bt729.1) t719 bt729.2.1 bt729.2.2 t723 t724)) else (spec_l2Two.j0 k false t719 t725 t726 t723 t724))) = some (r1, r2, r3, r4) := H
 have A3 := zA A30
 clear A30
 have HC4 := zA H
 clear H
 go_enter Try.func125, Try.ntmps125
 go_upto_region 3 with (first | ((with_reducible refine gate_dst (N := 2) rfl ?_); refine box_event ?hg (N := 2) ?hd (cs := #[.int .i64 0, .int .i64 0]) (t := 23) ?hr ?_; (case hd => rfl); (case hg => rfl); (case hr => exact zH); intro gb717 hg w5 hbox hb; have BK717 := zA (hbox); have GW717 := zg HB hg; have GE717 := zg HB hg; replace HB := zA (below_step (zB HB) hb); clear hb hbox hg) | ((with_reducible refine gate_dst (N := 3) rfl ?_); refine box_event ?hg (N := 3) ?hd (cs := #[.int .i64 0, .int .i64 0]) (t := 23) ?hr ?_; (case hd => rfl); (case hg => rfl); (case hr => exact zH); intro gb718 hg w6 hbox hb; have BK718 := zA (hbox); have GW718 := zg1 HB GE717 hg; have GE718 := zg1 HB GE717 hg; have NB717_718 := zn BK717 hg; have NB718_717 := zo BK717 hg; replace BK717 := zb BK717 hb; replace HB := zA (below_step (zB1 HB GE717) hb); clear hb hbox hg) | ((with_reducible refine gate_callee (f := 120) rfl ?_); refine goesL_ (some 7) rfl rfl Try.func120 (by kernel_rfl) rfl #[.slice A0 l0.length c0] rfl zM ?_; (with_reducible refine (spec_l1New.calls k _ _ l0 t719 t720 t721 w _ ?side1 ?side2 ?side3 A2.out).mono ?_); (case side1 => repeat (first | (with_reducible first | exact HB.out | apply below_alloc | apply pw_below_drewN | apply below_drew1 | refine below_set ?_ GE717.out | refine below_set ?_ GE718.out) | exact HB.out)); (case side2 => exact HR0.out); (case side3 => exact HC0.out); rintro e w7 ⟨g722, rfl, hi, hb, hb2⟩; refine ⟨_, rfl, ?_⟩; have HI722 := zA (hi); have NB722_717 := zA (IsS109.ne_blk hi (blk_below (g := gb717) (o := .cells #[.int .i64 0, .int .i64 0] 23 (0, 0)) (zD BK717) hb2) (by decide)); have NB717_722 := zA (Ne.symm (IsS109.ne_blk hi (blk_below (g := gb717) (o := .cells #[.int .i64 0, .int .i64 0] 23 (0, 0)) (zD BK717) hb2) (by decide))); have NB722_718 := zA (IsS109.ne_blk hi (blk_below (g := gb718) (o := .cells #[.int .i64 0, .int .i64 0] 23 (0, 0)) (zD BK718) hb2) (by decide)); have NB718_722 := zA (Ne.symm (IsS109.ne_blk hi (blk_below (g := gb718) (o := .cells #[.int .i64 0, .int .i64 0] 23 (0, 0)) (zD BK718) hb2) (by decide))); replace BK717 := zb BK717 hb2; replace BK718 := zb BK718 hb2; replace HB := zA (hb); (try clear hb); (try clear hb2); (try clear hk); (try clear hi)) | ((with_reducible refine gate_callee (f := 121) rfl ?_); refine goesL_ (some 9) rfl rfl Try.func121 (by kernel_rfl) rfl #[.pointer (some ⟨g722, 0, none⟩)] rfl zM ?_; (with_reducible refine (spec_l2Any.calls k g722 t719 t720 t721 t723 t724 t725 t726 w _ ?side1 ?side2 A3.out).mono ?_); (case side1 => repeat (first | (with_reducible first | exact HI722.out | apply IsS109.alloc | apply IsS109.drewN | apply IsS109.drew | apply IsS109.set_1 | apply IsS109.set_2 | refine IsS109.far ?_ NB722_717.out _ | refine IsS109.far ?_ NB722_718.out _) | exact HI722.out)); (case side2 => repeat (first | (with_reducible first | exact HB.out | apply below_alloc | apply pw_below_drewN | apply below_drew1 | refine below_set ?_ (IsS109.ge HI722.out) | refine below_set ?_ GE717.out | refine below_set ?_ GE718.out) | exact HB.out)); rintro e w8 ⟨rfl, hi, hb, hk⟩; refine ⟨_, rfl, ?_⟩; replace BK717 := zA (KeepBut.blk hk (g' := gb717) (o := .cells #[.int .i64 0, .int .i64 0] 23 (0, 0)) (zD BK717) NB717_722.out (by simp)); replace BK718 := zA (KeepBut.blk hk (g' := gb718) (o := .cells #[.int .i64 0, .int .i64 0] 23 (0, 0)) (zD BK718) NB718_722.out (by simp)); replace HB := zA (hb); replace HI722 := zA (hi); (try clear hb); (try clear hb2); (try clear hk); (try clear hi)) | ((with_reducible refine gate_dst (N := 5) rfl ?_); refine box_event ?hg (N := 5) ?hd (cs := #[.int .i64 0, .int .i64 0]) (t := 23) ?hr ?_; (case hd => rfl); (case hg => rfl); (case hr => exact zH); intro gb727 hg w9 hbox hb; have BK727 := zA (hbox); have GW727 := zA ((by rw [hg]; exact (below_size (by repeat (first | (with_reducible first | exact HB.out | apply below_alloc | apply pw_below_drewN | apply below_drew1 | refine below_set ?_ (IsS109.ge HI722.out) | refine below_set ?_ GE717.out | refine below_set ?_ GE718.out) | exact HB.out))) : w.heap.size ≤ gb727)); have GE727 := zA ((by rw [hg]; exact (below_size (by repeat (first | (with_reducible first | exact HB.out | apply below_alloc | apply pw_below_drewN | apply below_drew1 | refine below_set ?_ (IsS109.ge HI722.out) | refine below_set ?_ GE717.out | refine below_set ?_ GE718.out) | exact HB.out))) : w.heap.size ≤ gb727)); have NB717_727 := zn BK717 hg; have NB727_717 := zo BK717 hg; have NB718_727 := zn BK718 hg; have NB727_718 := zo BK718 hg; have NB722_727 := zA ((by rw [hg]; exact Nat.ne_of_lt (IsS109.lt (show IsS109 w _ g722 t719 t725 t726 from by repeat (first | (with_reducible first | exact HI722.out | apply IsS109.alloc | apply IsS109.drewN | apply IsS109.drew | apply IsS109.set_1 | apply IsS109.set_2 | refine IsS109.far ?_ NB722_717.out _ | refine IsS109.far ?_ NB722_718.out _) | exact HI722.out))) : g722 ≠ gb727)); have NB727_722 := zA ((by rw [hg]; exact Nat.ne_of_gt (IsS109.lt (show IsS109 w _ g722 t719 t725 t726 from by repeat (first | (with_reducible first | exact HI722.out | apply IsS109.alloc | apply IsS109.drewN | apply IsS109.drew | apply IsS109.set_1 | apply IsS109.set_2 | refine IsS109.far ?_ NB722_717.out _ | refine IsS109.far ?_ NB722_718.out _) | exact HI722.out))) : gb727 ≠ g722)); replace BK717 := zb BK717 hb; replace BK718 := zb BK718 hb; replace HB := zA (below_step (by repeat (first | (with_reducible first | exact HB.out | apply below_alloc | apply pw_below_drewN | apply below_drew1 | refine below_set ?_ (IsS109.ge HI722.out) | refine below_set ?_ GE717.out | refine below_set ?_ GE718.out) | exact HB.out)) hb); replace HI722 := zA (IsS109.below (by repeat (first | (with_reducible first | exact HI722.out | apply IsS109.alloc | apply IsS109.drewN | apply IsS109.drew | apply IsS109.set_1 | apply IsS109.set_2 | refine IsS109.far ?_ NB722_717.out _ | refine IsS109.far ?_ NB722_718.out _) | exact HI722.out)) hb); clear hb hbox hg; have hnb10 := NB727_717.out; have hnc10 := NB717_727.out; have hnb11 := NB727_718.out; have hnc11 := NB718_727.out; have hnb12 := NB727_722.out; have hnc12 := NB722_727.out; have hcz13_0 := zc0 BK727; have hcz13_1 := zc1 BK727; have hfz13_0 := blk_frozen BK727.out 0; have hfz13_1 := blk_frozen BK727.out 1))
 (try simp only [Act.put, List.setIfInBounds_toArray, List.set_cons_zero, List.set_cons_succ])
 go_cut [16] (fun v16 wc => ∃ (kq : Nat) (x16_3 : Bool) (x723001_3 : Int) (x723002_3 : Int), v16 = .bool x16_3 ∧ Aside0 (spec_l2Two.j0 kq x16_3 t719 x723001_3 x723002_3 t723 t724 = some (r1, r2, r3, r4)) ∧ Aside0 (kq ≤ k) ∧ Aside0 (wc.heap[gb717]? = some (.cells #[.int .i64 0, .int .i64 0] 23 (0, 0))) ∧ Aside0 (wc.heap[gb718]? = some (.cells #[.int .i64 0, .int .i64 0] 23 (0, 0))) ∧ Aside0 (wc.heap[gb727]? = some (.cells #[.int .i64 t723, .int .i64 t724] 23 (0, 0))) ∧ Aside0 (IsS109 w wc g722 t719 x723001_3 x723002_3) ∧ Aside0 (Below w.heap.size w wc))
 case first =>
  have H := HC4.out
  clear HC4
  replace H := Option.bind_eq_some_iff.mp H
  obtain ⟨t728, A140, H⟩ := H
  replace H : (if t728 = true then ((spec_l1Once.f t719 t725 t726 6).bind fun bt729 => (spec_l2Two.j0 k (!bt729.1) t719 bt729.2.1 bt729.2.2 t723 t724)) else (spec_l2Two.j0 k false t719 t725 t726 t723 t724)) = some (r1, r2, r3, r4) := H
  have A14 := zA A140
  clear A140
  by_cases c15 : t728 = true
  ·subst c15
   have H1 : ((spec_l1Once.f t719 t725 t726 6).bind fun bt729 => (spec_l2Two.j0 k (!bt729.1) t719 bt729.2.1 bt729.2.2 t723 t724)) = some (r1, r2, r3, r4) := by rw [if_pos rfl] at H; exact H
   clear H
   have H := H1
   clear H1
   replace H := Option.bind_eq_some_iff.mp H
   obtain ⟨⟨t729, t730, t731⟩, A160, H⟩ := H
   replace H : (spec_l2Two.j0 k (!t729) t719 t730 t731 t723 t724) = some (r1, r2, r3, r4) := H
   have A16 := zA A160
   clear A160
   have H' := zA H
   clear H
   have hnb17 := NB727_717.out
   have hnc17 := NB717_727.out
   have hnb18 := NB727_718.out
   have hnc18 := NB718_727.out
   have hnb19 := NB727_722.out
   have hnc19 := NB722_727.out
   have hcz20_0 := zc0 BK727
   have hcz20_1 := zc1 BK727
   have hfz20_0 := blk_frozen BK727.out 0
   have hfz20_1 := blk_frozen BK727.out 1
   go_wp2_with (first | ((with_reducible refine gate_callee (f := 78) rfl ?_); refine goesL_ (some 11) rfl rfl Try.func78 (by kernel_rfl) rfl #[.agg #[.int .i64 t723, .int .i64 t724]] rfl zM ?_; (with_reducible refine (spec_IsTable.calls t723 t724 true _ A14.out).mono ?_); rintro e w21 ⟨rfl, hb⟩; refine ⟨_, rfl, ?_⟩; replace BK717 := zf BK717 NB717_727 hb; replace BK718 := zf BK718 NB718_727 hb; replace BK727 := zp BK727 hb; replace HB := zA (below_step (by repeat (first | (with_reducible first | exact HB.out | apply below_alloc | apply pw_below_drewN | apply below_drew1 | refine below_set ?_ (IsS109.ge HI722.out) | refine below_set ?_ GE717.out | refine below_set ?_ GE718.out | refine below_set ?_ GE727.out) | exact HB.out)) hb); replace HI722 := zA (IsS109.below (show IsS109 w ((w9.setCell ⟨gb727, 0, none⟩ (.int .i64 t723)).setCell ⟨gb727, 1, none⟩ (.int .i64 t724)) g722 t719 t725 t726 from by repeat (first | (with_reducible first | exact HI722.out | apply IsS109.alloc | apply IsS109.drewN | apply IsS109.drew | apply IsS109.set_1 | apply IsS109.set_2 | refine IsS109.far ?_ NB722_717.out _ | refine IsS109.far ?_ NB722_718.out _ | refine IsS109.far ?_ NB722_727.out _) | exact HI722.out)) hb); (try clear hb); (try clear hb2); (try clear hk); (try clear hi)) | (go_at_call 123; (with_reducible refine (spec_l1Once.calls g722 t719 t725 t726 6 t729 t730 t731 w _ ?side1 ?side2 A16.out).mono ?_); (case side1 => repeat (first | (with_reducible first | exact HI722.out | apply IsS109.alloc | apply IsS109.drewN | apply IsS109.drew | apply IsS109.set_1 | apply IsS109.set_2 | refine IsS109.far ?_ NB722_717.out _ | refine IsS109.far ?_ NB722_718.out _ | refine IsS109.far ?_ NB722_727.out _) | exact HI722.out)); (case side2 => repeat (first | (with_reducible first | exact HB.out | apply below_alloc | apply pw_below_drewN | apply below_drew1 | refine below_set ?_ (IsS109.ge HI722.out) | refine below_set ?_ GE717.out | refine below_set ?_ GE718.out | refine below_set ?_ GE727.out) | exact HB.out)); rintro e w22 ⟨rfl, hi, hb, hk⟩; replace BK717 := zA (KeepBut.blk hk (g' := gb717) (o := .cells #[.int .i64 0, .int .i64 0] 23 (0, 0)) (zD BK717) NB717_722.out (by simp)); replace BK718 := zA (KeepBut.blk hk (g' := gb718) (o := .cells #[.int .i64 0, .int .i64 0] 23 (0, 0)) (zD BK718) NB718_722.out (by simp)); replace BK727 := zA (KeepBut.blk hk (g' := gb727) (o := .cells #[.int .i64 t723, .int .i64 t724] 23 (0, 0)) (zD BK727) NB727_722.out (by simp)); replace HB := zA (hb); replace HI722 := zA (hi); (try clear hb); (try clear hb2); (try clear hk); (try clear hi)))
   go_meet
   case rel => exact ⟨_, (!t729), (t730), (t731), zS, H', ⟨by first | omega | exact Nat.le_refl _⟩, ⟨zD BK717⟩, ⟨zD BK718⟩, ⟨zD BK727⟩, ⟨by repeat (first | (with_reducible first | exact HI722.out | apply IsS109.alloc | apply IsS109.drewN | apply IsS109.drew | apply IsS109.set_1 | apply IsS109.set_2 | refine IsS109.far ?_ NB722_717.out _ | refine IsS109.far ?_ NB722_718.out _ | refine IsS109.far ?_ NB722_727.out _) | exact HI722.out)⟩, ⟨by repeat (first | (with_reducible first | exact HB.out | apply below_alloc | apply pw_below_drewN | apply below_drew1 | refine below_set ?_ (IsS109.ge HI722.out) | refine below_set ?_ GE717.out | refine below_set ?_ GE718.out | refine below_set ?_ GE727.out) | exact HB.out)⟩⟩
  ·replace c15 := Bool.eq_false_iff.mpr c15
   subst c15
   have H1 : (spec_l2Two.j0 k false t719 t725 t726 t723 t724) = some (r1, r2, r3, r4) := by rw [if_neg (show ¬ (false = true) by decide)] at H; exact H
   clear H
   have H := H1
   clear H1
   have H' := zA H
   clear H
   have hnb23 := NB727_717.out
   have hnc23 := NB717_727.out
   have hnb24 := NB727_718.out
   have hnc24 := NB718_727.out
   have hnb25 := NB727_722.out
   have hnc25 := NB722_727.out
   have hcz26_0 := zc0 BK727
   have hcz26_1 := zc1 BK727
   have hfz26_0 := blk_frozen BK727.out 0
   have hfz26_1 := blk_frozen BK727.out 1
   go_wp2_with (first | ((with_reducible refine gate_callee (f := 78) rfl ?_); refine goesL_ (some 11) rfl rfl Try.func78 (by kernel_rfl) rfl #[.agg #[.int .i64 t723, .int .i64 t724]] rfl zM ?_; (with_reducible refine (spec_IsTable.calls t723 t724 false _ A14.out).mono ?_); rintro e w27 ⟨rfl, hb⟩; refine ⟨_, rfl, ?_⟩; replace BK717 := zf BK717 NB717_727 hb; replace BK718 := zf BK718 NB718_727 hb; replace BK727 := zp BK727 hb; replace HB := zA (below_step (by repeat (first | (with_reducible first | exact HB.out | apply below_alloc | apply pw_below_drewN | apply below_drew1 | refine below_set ?_ (IsS109.ge HI722.out) | refine below_set ?_ GE717.out | refine below_set ?_ GE718.out | refine below_set ?_ GE727.out) | exact HB.out)) hb); replace HI722 := zA (IsS109.below (show IsS109 w ((w9.setCell ⟨gb727, 0, none⟩ (.int .i64 t723)).setCell ⟨gb727, 1, none⟩ (.int .i64 t724)) g722 t719 t725 t726 from by repeat (first | (with_reducible first | exact HI722.out | apply IsS109.alloc | apply IsS109.drewN | apply IsS109.drew | apply IsS109.set_1 | apply IsS109.set_2 | refine IsS109.far ?_ NB722_717.out _ | refine IsS109.far ?_ NB722_718.out _ | refine IsS109.far ?_ NB722_727.out _) | exact HI722.out)) hb); (try clear hb); (try clear hb2); (try clear hk); (try clear hi)))
   go_meet
   case rel => exact ⟨_, (false), (t725), (t726), zS, H', ⟨by first | omega | exact Nat.le_refl _⟩, ⟨zD BK717⟩, ⟨zD BK718⟩, ⟨zD BK727⟩, ⟨by repeat (first | (with_reducible first | exact HI722.out | apply IsS109.alloc | apply IsS109.drewN | apply IsS109.drew | apply IsS109.set_1 | apply IsS109.set_2 | refine IsS109.far ?_ NB722_717.out _ | refine IsS109.far ?_ NB722_718.out _ | refine IsS109.far ?_ NB722_727.out _) | exact HI722.out)⟩, ⟨by repeat (first | (with_reducible first | exact HB.out | apply below_alloc | apply pw_below_drewN | apply below_drew1 | refine below_set ?_ (IsS109.ge HI722.out) | refine below_set ?_ GE717.out | refine below_set ?_ GE718.out | refine below_set ?_ GE727.out) | exact HB.out)⟩⟩
 case rest =>
  clear HC4
  try clear c1
  try clear c2
  try clear p2
  try clear c7
  try clear c10
  try clear c11
  try clear c12
  try clear c15
  try clear c17
  try clear c18
  try clear c19
  try clear c23
  try clear c24
  try clear c25
  try clear hcz13_0
  try clear hcz13_1
  try clear hcz20_0
  try clear hcz20_1
  try clear hcz26_0
  try clear hcz26_1
  try clear hfz13_0
  try clear hfz13_1
  try clear hfz20_0
  try clear hfz20_1
  try clear hfz26_0
  try clear hfz26_1
  obtain ⟨kq, x16_3, x723001_3, x723002_3, rfl, HA, HJ3, BK717, BK718, BK727, HI722, HB⟩ := hcut
  cases kq with
  | zero => exact absurd HA.out (by simp [spec_l2Two.j0])
  | succ kj3 =>
   have H := HA.out
   clear HA
   simp only [spec_l2Two.j0] at H
   by_cases c28 : x16_3 = true
   ·subst c28
    have H1 : ((spec_l2Draw.f kj3 t719 x723001_3 x723002_3 t723).bind fun bt732 => (some (t723, t724, bt732.1, bt732.2.1))) = some (r1, r2, r3, r4) := by rw [if_pos rfl] at H; exact H
    clear H
    have H := H1
    clear H1
    replace H := Option.bind_eq_some_iff.mp H
    obtain ⟨⟨t732, t733, t734, t735⟩, A290, H⟩ := H
    replace H : (some (t723, t724, t732, t733)) = some (r1, r2, r3, r4) := H
    have A29 := zA A290
    clear A290
    simp only [Option.some.injEq, Prod.mk.injEq] at H
    obtain ⟨rfl, rfl, rfl, rfl⟩ := H
    try go_wp2
    have n0_ := zA (blk_drew BK717.out)
    have n1_ := zA (blk_drew BK718.out)
    have n2_ := zA (blk_drew BK727.out)
    have n3_ := zA (IsS109.drew HI722.out)
    have n4_ := zA (below_drew1 HB.out)
    clear BK717
    clear BK718
    clear BK727
    clear HI722
    clear HB
    have BK717 := n0_
    have BK718 := n1_
    have BK727 := n2_
    have HI722 := n3_
    have HB := n4_
    clear n0_ n1_ n2_ n3_ n4_
    refine start_ (n := 7) (S := fun w' => w'.cell? ⟨gb727, 0, none⟩ = some (.int .i64 t723) ∧ w'.cell? ⟨gb727, 1, none⟩ = some (.int .i64 t724)) (ds := []) #[false, false, false, false, false, false, false] (by kernel_rfl) rfl rfl ⟨(blk_cell BK727.out 0).trans rfl, (blk_cell BK727.out 1).trans rfl⟩ (fun hHeld => ?_)
    generalize wc.drew = w30 at BK717 BK718 BK727 HI722 HB hHeld ⊢
    refine pure_ (i := 1) (N := some 18) (v := ?_) (a' := ?_) #[false, true, false, false, false, false, false] rfl rfl (by kernel_rfl) (fun _ _ _ h => h) (Or.inl ⟨by rfl, ?_⟩) ?_ ?_
    rotate_left
    ·intro w'
     go_simp
     with_reducible rfl
    rotate_left
    ·simp only [Act.put, List.setIfInBounds_toArray, List.set_cons_zero, List.set_cons_succ, i64_w, i32_w]
     rfl
    refine pure_ (i := 2) (N := some 19) (v := ?_) (a' := ?_) #[false, true, true, false, false, false, false] rfl rfl (by kernel_rfl) (fun _ _ _ h => h) (Or.inl ⟨by rfl, ?_⟩) ?_ ?_
    rotate_left
    ·intro w'
     go_simp
     with_reducible rfl
    rotate_left
    ·simp only [Act.put, List.setIfInBounds_toArray, List.set_cons_zero, List.set_cons_succ, i64_w, i32_w]
     rfl
    refine take_ (i := 0) (N := some 17) (v := ?_) (a' := ?_) #[true, true, true, false, false, false, false] rfl rfl (by kernel_rfl) (fun _ _ _ h => h) (Or.inl ⟨by rfl, ?_⟩) hHeld ?_ ?_
    rotate_left
    ·rintro w' ⟨s0, s1⟩
     go_simp
     with_reducible rfl
    rotate_left
    ·simp only [Act.put, List.setIfInBounds_toArray, List.set_cons_zero, List.set_cons_succ, i64_w, i32_w]
     rfl
    refine take_ (i := 3) (N := some 20) (v := ?_) (a' := ?_) #[true, true, true, true, false, false, false] rfl rfl (by kernel_rfl) (fun _ _ _ h => h) (Or.inl ⟨by rfl, ?_⟩) hHeld ?_ ?_
    rotate_left
    ·rintro w' ⟨s0, s1⟩
     go_simp
     with_reducible rfl
    rotate_left
    ·simp only [Act.put, List.setIfInBounds_toArray, List.set_cons_zero, List.set_cons_succ, i64_w, i32_w]
     rfl
    refine one_ (i := 4) (N := some 21) #[true, true, true, true, true, false, false] rfl rfl (by kernel_rfl) (by decide) (fun K hK => ?_)
    refine goes_ Try.func138 (by kernel_rfl) rfl #[.pointer (some ⟨g722, 0, none⟩), .int .i64 t723] (by rfl) rfl rfl zM ?_
    with_reducible refine (spec_l2Draw.calls kj3 g722 t719 x723001_3 x723002_3 t723 t732 t733 t734 t735 w _ ?side1 ?side2 A29.out).mono ?_
    (case side1 => repeat (first | (with_reducible first | exact HI722.out | apply IsS109.alloc | apply IsS109.drewN | apply IsS109.drew | apply IsS109.set_1 | apply IsS109.set_2 | refine IsS109.far ?_ NB722_717.out _ | refine IsS109.far ?_ NB722_718.out _ | refine IsS109.far ?_ NB722_727.out _) | exact HI722.out))
    (case side2 => repeat (first | (with_reducible first | exact HB.out | apply below_alloc | apply pw_below_drewN | apply below_drew1 | refine below_set ?_ (IsS109.ge HI722.out) | refine below_set ?_ GE717.out | refine below_set ?_ GE718.out | refine below_set ?_ GE727.out) | exact HB.out))
    rintro e w31 ⟨rfl, hi, hb, hk⟩
    refine ⟨_, rfl, ?_⟩
    have n0_ := zA (KeepBut.blk hk (g' := gb717) (o := .cells #[.int .i64 0, .int .i64 0] 23 (0, 0)) (zD BK717) NB717_722.out (by simp))
    have n1_ := zA (KeepBut.blk hk (g' := gb718) (o := .cells #[.int .i64 0, .int .i64 0] 23 (0, 0)) (zD BK718) NB718_722.out (by simp))
    have n2_ := zA (KeepBut.blk hk (g' := gb727) (o := .cells #[.int .i64 t723, .int .i64 t724] 23 (0, 0)) (zD BK727) NB727_722.out (by simp))
    have n3_ := zA (hb)
    have n4_ := zA (hi)
    clear BK717
    clear BK718
    clear BK727
    clear HB
    clear HI722
    have BK717 := n0_
    have BK718 := n1_
    have BK727 := n2_
    have HB := n3_
    have HI722 := n4_
    clear n0_ n1_ n2_ n3_ n4_
    (try clear hb)
    (try clear hb2)
    (try clear hk)
    (try clear hi)
    refine hK.out _ _ ⟨(blk_cell BK727.out 0).trans rfl, (blk_cell BK727.out 1).trans rfl⟩ (fun hHeld => ?_)
    clear hK K
    refine norm_ (a' := ?_) ?_ ?_
    rotate_left
    ·show Act.put _ (some 21) _ = _
     simp only [Act.put, List.setIfInBounds_toArray, List.set_cons_zero, List.set_cons_succ, i64_w, i32_w]
     rfl
    refine one_ (i := 5) (N := none) #[true, true, true, true, true, true, false] rfl rfl (by kernel_rfl) (by decide) (fun K hK => ?_)
    have hs32 : w31.cell? ⟨gb717, 0, none⟩ = some (.int .i64 0) := (blk_cell BK717.out 0).trans rfl
    have hfs32 := blk_frozen BK717.out 0
    have hns32_1 := NB718_717.out
    have hns32_2 := NB727_717.out
    have hms32_1 := NB717_718.out
    have hms32_2 := NB717_727.out
    have hs33 : w31.cell? ⟨gb717, 1, none⟩ = some (.int .i64 0) := (blk_cell BK717.out 1).trans rfl
    have hfs33 := blk_frozen BK717.out 1
    have hns33_1 := NB718_717.out
    have hns33_2 := NB727_717.out
    have hms33_1 := NB717_718.out
    have hms33_2 := NB717_727.out
    refine skip_ (w1 := ?_) (by rfl) rfl ?_ ?_
    rotate_left
    ·go_simp
     rfl
    refine hK.out _ _ ⟨((cell_far (p := ⟨gb717, _, none⟩) NB727_717.out _).trans (((cell_far (p := ⟨gb717, _, none⟩) NB727_717.out _).trans (hHeld.1)))), ((cell_far (p := ⟨gb717, _, none⟩) NB727_717.out _).trans (((cell_far (p := ⟨gb717, _, none⟩) NB727_717.out _).trans (hHeld.2))))⟩ (fun hHeld => ?_)
    clear hK K
    refine one_ (i := 6) (N := none) #[true, true, true, true, true, true, true] rfl rfl (by kernel_rfl) (by decide) (fun K hK => ?_)
    have hs34 : w31.cell? ⟨gb718, 0, none⟩ = some (.int .i64 0) := (blk_cell BK718.out 0).trans rfl
    have hfs34 := blk_frozen BK718.out 0
    have hns34_0 := NB717_718.out
    have hns34_2 := NB727_718.out
    have hms34_0 := NB718_717.out
    have hms34_2 := NB718_727.out
    have hs35 : w31.cell? ⟨gb718, 1, none⟩ = some (.int .i64 0) := (blk_cell BK718.out 1).trans rfl
    have hfs35 := blk_frozen BK718.out 1
    have hns35_0 := NB717_718.out
    have hns35_2 := NB727_718.out
    have hms35_0 := NB718_717.out
    have hms35_2 := NB718_727.out
    refine skip_ (w1 := ?_) (by rfl) rfl ?_ ?_
    rotate_left
    ·go_simp
     rfl
    refine hK.out _ _ ⟨((cell_far (p := ⟨gb718, _, none⟩) NB727_718.out _).trans (((cell_far (p := ⟨gb718, _, none⟩) NB727_718.out _).trans (hHeld.1)))), ((cell_far (p := ⟨gb718, _, none⟩) NB727_718.out _).trans (((cell_far (p := ⟨gb718, _, none⟩) NB727_718.out _).trans (hHeld.2))))⟩ (fun hHeld => ?_)
    clear hK K
    refine done_ (by kernel_rfl) ?_
    try go_wp2
    refine bodyPost_ret (results_cc rfl _ _ gb717 gb718 23 23 #[.int .i64 t723, .int .i64 t724] #[.int .i64 t732, .int .i64 t733] (0, 0) (0, 0) _ _ rfl (by (with_reducible repeat (first | refine blk_drewN ?_ _ | refine blk_drew ?_ | refine blk_alloc ?_ _)); refine blk_far ?_ NB717_718.out _; (with_reducible repeat (first | refine blk_drewN ?_ _ | refine blk_drew ?_ | refine blk_alloc ?_ _)); refine blk_far ?_ NB717_718.out _; (with_reducible repeat (first | refine blk_drewN ?_ _ | refine blk_drew ?_ | refine blk_alloc ?_ _)); refine blk_put (cs := #[.int .i64 t723, .int .i64 0]) ?_ 1 _ rfl; (with_reducible repeat (first | refine blk_drewN ?_ _ | refine blk_drew ?_ | refine blk_alloc ?_ _)); refine blk_put (cs := #[.int .i64 0, .int .i64 0]) ?_ 0 _ rfl; (with_reducible repeat (first | refine blk_drewN ?_ _ | refine blk_drew ?_ | refine blk_alloc ?_ _)); exact BK717.out) Try.underlying23 rfl (by kernel_rfl) rfl (by (with_reducible repeat (first | refine blk_drewN ?_ _ | refine blk_drew ?_ | refine blk_alloc ?_ _)); refine blk_put (cs := #[.int .i64 t732, .int .i64 0]) ?_ 1 _ rfl; (with_reducible repeat (first | refine blk_drewN ?_ _ | refine blk_drew ?_ | refine blk_alloc ?_ _)); refine blk_put (cs := #[.int .i64 0, .int .i64 0]) ?_ 0 _ rfl; (with_reducible repeat (first | refine blk_drewN ?_ _ | refine blk_drew ?_ | refine blk_alloc ?_ _)); refine blk_far ?_ NB718_717.out _; (with_reducible repeat (first | refine blk_drewN ?_ _ | refine blk_drew ?_ | refine blk_alloc ?_ _)); refine blk_far ?_ NB718_717.out _; (with_reducible repeat (first | refine blk_drewN ?_ _ | refine blk_drew ?_ | refine blk_alloc ?_ _)); exact BK718.out) Try.underlying23 rfl (by kernel_rfl)) rfl ?_
    exact ⟨by first | rfl | (simp [errW_none, errW_some] <;> rfl) | (simp [*, errW_none, errW_some] <;> rfl), by repeat (first | (with_reducible first | exact HB.out | apply below_alloc | apply pw_below_drewN | apply below_drew1 | refine below_set ?_ (IsS109.ge HI722.out) | refine below_set ?_ GE717.out | refine below_set ?_ GE718.out | refine below_set ?_ GE727.out) | exact HB.out)⟩
   ·replace c28 := Bool.eq_false_iff.mpr c28
    subst c28
    have H1 : ((spec_l2Any.f kj3 t719 x723001_3 x723002_3).bind fun bt736 => (some (t723, t724, bt736.1, bt736.2.1))) = some (r1, r2, r3, r4) := by rw [if_neg (show ¬ (false = true) by decide)] at H; exact H
    clear H
    have H := H1
    clear H1
    replace H := Option.bind_eq_some_iff.mp H
    obtain ⟨⟨t736, t737, t738, t739⟩, A360, H⟩ := H
    replace H : (some (t723, t724, t736, t737)) = some (r1, r2, r3, r4) := H
    have A36 := zA A360
    clear A360
    simp only [Option.some.injEq, Prod.mk.injEq] at H
    obtain ⟨rfl, rfl, rfl, rfl⟩ := H
    try go_wp2
    have n0_ := zA (blk_drew BK717.out)
    have n1_ := zA (blk_drew BK718.out)
    have n2_ := zA (blk_drew BK727.out)
    have n3_ := zA (IsS109.drew HI722.out)
    have n4_ := zA (below_drew1 HB.out)
    clear BK717
    clear BK718
    clear BK727
    clear HI722
    clear HB
    have BK717 := n0_
    have BK718 := n1_
    have BK727 := n2_
    have HI722 := n3_
    have HB := n4_
    clear n0_ n1_ n2_ n3_ n4_
    refine start_ (n := 5) (S := fun w' => w'.cell? ⟨gb727, 0, none⟩ = some (.int .i64 t723) ∧ w'.cell? ⟨gb727, 1, none⟩ = some (.int .i64 t724)) (ds := []) #[false, false, false, false, false] (by kernel_rfl) rfl rfl ⟨(blk_cell BK727.out 0).trans rfl, (blk_cell BK727.out 1).trans rfl⟩ (fun hHeld => ?_)
    generalize wc.drew = w37 at BK717 BK718 BK727 HI722 HB hHeld ⊢
    refine pure_ (i := 1) (N := some 23) (v := ?_) (a' := ?_) #[false, true, false, false, false] rfl rfl (by kernel_rfl) (fun _ _ _ h => h) (Or.inl ⟨by rfl, ?_⟩) ?_ ?_
    rotate_left
    ·intro w'
     go_simp
     with_reducible rfl
    rotate_left
    ·simp only [Act.put, List.setIfInBounds_toArray, List.set_cons_zero, List.set_cons_succ, i64_w, i32_w]
     rfl
    refine take_ (i := 0) (N := some 22) (v := ?_) (a' := ?_) #[true, true, false, false, false] rfl rfl (by kernel_rfl) (fun _ _ _ h => h) (Or.inl ⟨by rfl, ?_⟩) hHeld ?_ ?_
    rotate_left
    ·rintro w' ⟨s0, s1⟩
     go_simp
     with_reducible rfl
    rotate_left
    ·simp only [Act.put, List.setIfInBounds_toArray, List.set_cons_zero, List.set_cons_succ, i64_w, i32_w]
     rfl
    refine one_ (i := 2) (N := some 24) #[true, true, true, false, false] rfl rfl (by kernel_rfl) (by decide) (fun K hK => ?_)
    refine goes_ Try.func121 (by kernel_rfl) rfl #[.pointer (some ⟨g722, 0, none⟩)] (by rfl) rfl rfl zM ?_
    with_reducible refine (spec_l2Any.calls kj3 g722 t719 x723001_3 x723002_3 t736 t737 t738 t739 w _ ?side1 ?side2 A36.out).mono ?_
    (case side1 => repeat (first | (with_reducible first | exact HI722.out | apply IsS109.alloc | apply IsS109.drewN | apply IsS109.drew | apply IsS109.set_1 | apply IsS109.set_2 | refine IsS109.far ?_ NB722_717.out _ | refine IsS109.far ?_ NB722_718.out _ | refine IsS109.far ?_ NB722_727.out _) | exact HI722.out))
    (case side2 => repeat (first | (with_reducible first | exact HB.out | apply below_alloc | apply pw_below_drewN | apply below_drew1 | refine below_set ?_ (IsS109.ge HI722.out) | refine below_set ?_ GE717.out | refine below_set ?_ GE718.out | refine below_set ?_ GE727.out) | exact HB.out))
    rintro e w38 ⟨rfl, hi, hb, hk⟩
    refine ⟨_, rfl, ?_⟩
    have n0_ := zA (KeepBut.blk hk (g' := gb717) (o := .cells #[.int .i64 0, .int .i64 0] 23 (0, 0)) (zD BK717) NB717_722.out (by simp))
    have n1_ := zA (KeepBut.blk hk (g' := gb718) (o := .cells #[.int .i64 0, .int .i64 0] 23 (0, 0)) (zD BK718) NB718_722.out (by simp))
    have n2_ := zA (KeepBut.blk hk (g' := gb727) (o := .cells #[.int .i64 t723, .int .i64 t724] 23 (0, 0)) (zD BK727) NB727_722.out (by simp))
    have n3_ := zA (hb)
    have n4_ := zA (hi)
    clear BK717
    clear BK718
    clear BK727
    clear HB
    clear HI722
    have BK717 := n0_
    have BK718 := n1_
    have BK727 := n2_
    have HB := n3_
    have HI722 := n4_
    clear n0_ n1_ n2_ n3_ n4_
    (try clear hb)
    (try clear hb2)
    (try clear hk)
    (try clear hi)
    refine hK.out _ _ ⟨(blk_cell BK727.out 0).trans rfl, (blk_cell BK727.out 1).trans rfl⟩ (fun hHeld => ?_)
    clear hK K
    refine norm_ (a' := ?_) ?_ ?_
    rotate_left
    ·show Act.put _ (some 24) _ = _
     simp only [Act.put, List.setIfInBounds_toArray, List.set_cons_zero, List.set_cons_succ, i64_w, i32_w]
     rfl
    refine one_ (i := 3) (N := none) #[true, true, true, true, false] rfl rfl (by kernel_rfl) (by decide) (fun K hK => ?_)
    have hs39 : w38.cell? ⟨gb717, 0, none⟩ = some (.int .i64 0) := (blk_cell BK717.out 0).trans rfl
    have hfs39 := blk_frozen BK717.out 0
    have hns39_1 := NB718_717.out
    have hns39_2 := NB727_717.out
    have hms39_1 := NB717_718.out
    have hms39_2 := NB717_727.out
    have hs40 : w38.cell? ⟨gb717, 1, none⟩ = some (.int .i64 0) := (blk_cell BK717.out 1).trans rfl
    have hfs40 := blk_frozen BK717.out 1
    have hns40_1 := NB718_717.out
    have hns40_2 := NB727_717.out
    have hms40_1 := NB717_718.out
    have hms40_2 := NB717_727.out
    refine skip_ (w1 := ?_) (by rfl) rfl ?_ ?_
    rotate_left
    ·go_simp
     rfl
    refine hK.out _ _ ⟨((cell_far (p := ⟨gb717, _, none⟩) NB727_717.out _).trans (((cell_far (p := ⟨gb717, _, none⟩) NB727_717.out _).trans (hHeld.1)))), ((cell_far (p := ⟨gb717, _, none⟩) NB727_717.out _).trans (((cell_far (p := ⟨gb717, _, none⟩) NB727_717.out _).trans (hHeld.2))))⟩ (fun hHeld => ?_)
    clear hK K
    refine one_ (i := 4) (N := none) #[true, true, true, true, true] rfl rfl (by kernel_rfl) (by decide) (fun K hK => ?_)
    have hs41 : w38.cell? ⟨gb718, 0, none⟩ = some (.int .i64 0) := (blk_cell BK718.out 0).trans rfl
    have hfs41 := blk_frozen BK718.out 0
    have hns41_0 := NB717_718.out
    have hns41_2 := NB727_718.out
    have hms41_0 := NB718_717.out
    have hms41_2 := NB718_727.out
    have hs42 : w38.cell? ⟨gb718, 1, none⟩ = some (.int .i64 0) := (blk_cell BK718.out 1).trans rfl
    have hfs42 := blk_frozen BK718.out 1
    have hns42_0 := NB717_718.out
    have hns42_2 := NB727_718.out
    have hms42_0 := NB718_717.out
    have hms42_2 := NB718_727.out
    refine skip_ (w1 := ?_) (by rfl) rfl ?_ ?_
    rotate_left
    ·go_simp
     rfl
    refine hK.out _ _ ⟨((cell_far (p := ⟨gb718, _, none⟩) NB727_718.out _).trans (((cell_far (p := ⟨gb718, _, none⟩) NB727_718.out _).trans (hHeld.1)))), ((cell_far (p := ⟨gb718, _, none⟩) NB727_718.out _).trans (((cell_far (p := ⟨gb718, _, none⟩) NB727_718.out _).trans (hHeld.2))))⟩ (fun hHeld => ?_)
    clear hK K
    refine done_ (by kernel_rfl) ?_
    try go_wp2
    refine bodyPost_ret (results_cc rfl _ _ gb717 gb718 23 23 #[.int .i64 t723, .int .i64 t724] #[.int .i64 t736, .int .i64 t737] (0, 0) (0, 0) _ _ rfl (by (with_reducible repeat (first | refine blk_drewN ?_ _ | refine blk_drew ?_ | refine blk_alloc ?_ _)); refine blk_far ?_ NB717_718.out _; (with_reducible repeat (first | refine blk_drewN ?_ _ | refine blk_drew ?_ | refine blk_alloc ?_ _)); refine blk_far ?_ NB717_718.out _; (with_reducible repeat (first | refine blk_drewN ?_ _ | refine blk_drew ?_ | refine blk_alloc ?_ _)); refine blk_put (cs := #[.int .i64 t723, .int .i64 0]) ?_ 1 _ rfl; (with_reducible repeat (first | refine blk_drewN ?_ _ | refine blk_drew ?_ | refine blk_alloc ?_ _)); refine blk_put (cs := #[.int .i64 0, .int .i64 0]) ?_ 0 _ rfl; (with_reducible repeat (first | refine blk_drewN ?_ _ | refine blk_drew ?_ | refine blk_alloc ?_ _)); exact BK717.out) Try.underlying23 rfl (by kernel_rfl) rfl (by (with_reducible repeat (first | refine blk_drewN ?_ _ | refine blk_drew ?_ | refine blk_alloc ?_ _)); refine blk_put (cs := #[.int .i64 t736, .int .i64 0]) ?_ 1 _ rfl; (with_reducible repeat (first | refine blk_drewN ?_ _ | refine blk_drew ?_ | refine blk_alloc ?_ _)); refine blk_put (cs := #[.int .i64 0, .int .i64 0]) ?_ 0 _ rfl; (with_reducible repeat (first | refine blk_drewN ?_ _ | refine blk_drew ?_ | refine blk_alloc ?_ _)); refine blk_far ?_ NB718_717.out _; (with_reducible repeat (first | refine blk_drewN ?_ _ | refine blk_drew ?_ | refine blk_alloc ?_ _)); refine blk_far ?_ NB718_717.out _; (with_reducible repeat (first | refine blk_drewN ?_ _ | refine blk_drew ?_ | refine blk_alloc ?_ _)); exact BK718.out) Try.underlying23 rfl (by kernel_rfl)) rfl ?_
    exact ⟨by first | rfl | (simp [errW_none, errW_some] <;> rfl) | (simp [*, errW_none, errW_some] <;> rfl), by repeat (first | (with_reducible first | exact HB.out | apply below_alloc | apply pw_below_drewN | apply below_drew1 | refine below_set ?_ (IsS109.ge HI722.out) | refine below_set ?_ GE717.out | refine below_set ?_ GE718.out | refine below_set ?_ GE727.out) | exact HB.out)⟩

/-! ### spec_DrawJoinTables: function 70 -/
def spec_DrawJoinTables.f (k : Nat) (l0 : List Int) : Option (Int × Int × Int × Int × Int) := (spec_l2Two.f k l0).bind fun bt742 => ((some (([0, 1, 2, 3, 4, (-1), 5] : List Int) : List Int)).bind fun y748 => (if 0 ≤ ((l0.length : Int) % 7) then (if ((l0.length : Int) % 7) < (y748.length : Int) then (some (bt742.1, bt742.2.1, bt742.2.2.1, bt742.2.2.2, rd y748 ((l0.length : Int) % 7))) else (none)) else (none)))
theorem spec_DrawJoinTables.mono : ∀ a0 k, LeO (spec_DrawJoinTables.f k a0) (spec_DrawJoinTables.f (k + 1) a0) := by
 intro a0 k
 unfold spec_DrawJoinTables.f
 repeat' first
   | (with_reducible exact spec_l2Two.mono _ _)
   | (with_reducible exact LeO.refl _)
   | (with_reducible exact LeO.none _)
   | (with_reducible refine LeO.ite ?_ ?_)
   | (with_reducible refine LeO.bind ?_ (fun _ => ?_))
   | exact spec_l2Two.mono _ _
   | exact LeO.none _
   | refine LeO.ite ?_ ?_
   | refine LeO.bind ?_ (fun _ => ?_)
def spec_DrawJoinTables.T2 : Bool × List (List Nat × List Nat) := (true, [([], []), ([], []), ([], []), ([], []), ([3], [3]), ([4], [4]), ([2, 5], [2, 5]), ([6], [6]), ([0, 0], [0]), ([1, 8, 0, 1, 8], [1]), ([7, 9, 0, 1, 2, 3, 4, 5, 6, 7, 8, 9], [7])])
def spec_DrawJoinTables.B2 : List Nat := [0, 0, 0, 0, 8, 24, 60, 124, 1, 259, 1023]
theorem spec_DrawJoinTables.tab2 : rtab .any (opsOf Try.f70 2) = spec_DrawJoinTables.T2 := by kernel_rfl
theorem spec_DrawJoinTables.bits2 : waitsOk spec_DrawJoinTables.T2.2 spec_DrawJoinTables.B2 = true := by kernel_rfl
set_option maxHeartbeats 8000000 in
set_option maxRecDepth 100000 in
theorem spec_DrawJoinTables.calls (k : Nat) (A0 : Option Addr) (c0 : Nat) (l0 : List Int) (r1 : Int) (r2 : Int) (r3 : Int) (r4 : Int) (r5 : Int) (w : World) (hr0 : Kd.C (Kd.int .u8) w A0 l0.length l0) (hc0 : l0.length ≤ c0) (h : spec_DrawJoinTables.f k l0 = some (r1, r2, r3, r4, r5)) :
  Calls Try.prog 70 #[.slice A0 l0.length c0] w fun e w' => e = .returned (.tuple #[.agg #[.int .i64 r1, .int .i64 r2], .agg #[.int .i64 r3, .int .i64 r4], .int .i64 r5]) ∧ Below w.heap.size w w' := by
 have hu23 := Try.underlying23
 have HR0 := zA hr0
 have HC0 := zA hc0
 clear hr0 hc0
 have HB := zA (Below.refl w.heap.size w)
 have H := h
 unfold spec_DrawJoinTables.f at H
 clear h
 replace H := Option.bind_eq_some_iff.mp H
 obtain ⟨⟨t742, t743, t744, t745⟩, A20, H⟩ := H
 replace H : ((some (([0, 1, 2, 3, 4, (-1), 5] : List Int) : List Int)).bind fun y748 => (if 0 ≤ ((l0.length : Int) % 7) then (if ((l0.length : Int) % 7) < (y748.length : Int) then (some (t742, t743, t744, t745, rd y748 ((l0.length : Int) % 7))) else (none)) else (none))) = some (r1, r2, r3, r4, r5) := H
 have A2 := zA A20
 clear A20
 obtain ⟨y748, hy748⟩ : ∃ y_ : List Int, y_ = (([0, 1, 2, 3, 4, (-1), 5] : List Int)) := ⟨_, rfl⟩
 replace H : (if 0 ≤ ((l0.length : Int) % 7) then (if ((l0.length : Int) % 7) < (y748.length : Int) then (some (t742, t743, t744, t745, rd y748 ((l0.length : Int) % 7))) else (none)) else (none)) = some (r1, r2, r3, r4, r5) := by first | (rw [hy748]; with_reducible exact H) | (have H2_ := (Option.bind_some _ _).symm.trans H; rw [hy748]; with_reducible exact H2_) | (have H2_ := (Option.bind_some _ _).symm.trans H; with_reducible exact H2_) | with_reducible exact H | (rw [hy748]; exact H) | exact H
 have Ny748 := zA hy748
 clear hy748
 obtain ⟨ji3, hji3⟩ : ∃ j_ : Int, ((l0.length : Int) % 7) = j_ := ⟨_, rfl⟩
 have hji3t : Int.tmod (l0.length : Int) 7 = ji3 := (Int.tmod_eq_emod_of_nonneg (by omega)).trans hji3
 replace H : (if 0 ≤ (ji3) then (if (ji3) < (y748.length : Int) then (some (t742, t743, t744, t745, rd y748 (ji3))) else (none)) else (none)) = some (r1, r2, r3, r4, r5) := by first | (rw [hji3] at H; exact H) | (simp only [hji3] at H ⊢; exact H)
 (try rw [hji3] at A2)
 by_cases c4 : 0 ≤ (ji3)
 ·rw [if_pos c4] at H
  have c4b0 : decide (0 ≤ (ji3)) = true := decide_eq_true c4
  clear c4
  by_cases c5 : (ji3) < (y748.length : Int)
  ·rw [if_pos c5] at H
   have c5b0 : decide ((ji3) < (y748.length : Int)) = true := decide_eq_true c5
   clear c5
   simp only [Option.some.injEq, Prod.mk.injEq] at H
   obtain ⟨rfl, rfl, rfl, rfl, rfl⟩ := H
   go_enter Try.func70, Try.ntmps70
   try go_wp2_with (first | ((with_reducible refine gate_dst (N := 2) rfl ?_); refine box_event ?hg (N := 2) ?hd (cs := #[.int .i64 0, .int .i64 0]) (t := 23) ?hr ?_; (case hd => rfl); (case hg => rfl); (case hr => exact zH); intro gb740 hg w6 hbox hb; have BK740 := zA (hbox); have GW740 := zg HB hg; have GE740 := zg HB hg; replace HB := zA (below_step (zB HB) hb); clear hb hbox hg) | ((with_reducible refine gate_dst (N := 3) rfl ?_); refine box_event ?hg (N := 3) ?hd (cs := #[.int .i64 0, .int .i64 0]) (t := 23) ?hr ?_; (case hd => rfl); (case hg => rfl); (case hr => exact zH); intro gb741 hg w7 hbox hb; have BK741 := zA (hbox); have GW741 := zg1 HB GE740 hg; have GE741 := zg1 HB GE740 hg; have NB740_741 := zn BK740 hg; have NB741_740 := zo BK740 hg; replace BK740 := zb BK740 hb; replace HB := zA (below_step (zB1 HB GE740) hb); clear hb hbox hg) | ((with_reducible refine gate_callee (f := 125) rfl ?_); refine goesL_ (some 9) rfl rfl Try.func125 (by kernel_rfl) rfl #[.slice A0 l0.length c0] rfl zM ?_; (with_reducible refine (spec_l2Two.calls k _ _ l0 t742 t743 t744 t745 _ ?side1 ?side2 A2.out).mono ?_); (case side1 => repeat (first | exact (Kd.C_below HR0.out HB.out) | (with_reducible refine Kd.C_alloc ?_ _) | (with_reducible refine Kd.C_drewN ?_ _) | (with_reducible refine Kd.C_drew ?_))); (case side2 => exact HC0.out); rintro e w8 ⟨rfl, hb⟩; refine ⟨_, rfl, ?_⟩; replace BK740 := zb BK740 hb; replace BK741 := zb BK741 hb; replace HB := zA (below_step (zB2 HB GE740 GE741) hb); (try clear hb); (try clear hb2); (try clear hk); (try clear hi)) | ((with_reducible refine gate_dst (N := 5) rfl ?_); refine box_event ?hg (N := 5) ?hd (cs := #[.int .i64 0, .int .i64 0]) (t := 23) ?hr ?_; (case hd => rfl); (case hg => rfl); (case hr => exact zH); intro gb746 hg w9 hbox hb; have BK746 := zA (hbox); have GW746 := zg2 HB GE740 GE741 hg; have GE746 := zg2 HB GE740 GE741 hg; have NB740_746 := zn BK740 hg; have NB746_740 := zo BK740 hg; have NB741_746 := zn BK741 hg; have NB746_741 := zo BK741 hg; replace BK740 := zb BK740 hb; replace BK741 := zb BK741 hb; replace HB := zA (below_step (zB2 HB GE740 GE741) hb); clear hb hbox hg) | ((with_reducible refine gate_dst (N := 6) rfl ?_); refine box_event ?hg (N := 6) ?hd (cs := #[.int .i64 0, .int .i64 0]) (t := 23) ?hr ?_; (case hd => rfl); (case hg => rfl); (case hr => exact zH); intro gb747 hg w10 hbox hb; have BK747 := zA (hbox); have GW747 := zg3 HB GE740 GE741 GE746 hg; have GE747 := zg3 HB GE740 GE741 GE746 hg; have NB740_747 := zn BK740 hg; have NB747_740 := zo BK740 hg; have NB741_747 := zn BK741 hg; have NB747_741 := zo BK741 hg; have NB746_747 := zn BK746 hg; have NB747_746 := zo BK746 hg; replace BK740 := zb BK740 hb; replace BK741 := zb BK741 hb; replace BK746 := zb BK746 hb; replace HB := zA (below_step (zB3 HB GE740 GE741 GE746) hb); clear hb hbox hg; have hnb11 := NB746_740.out; have hnc11 := NB740_746.out; have hnb12 := NB746_741.out; have hnc12 := NB741_746.out; have hnb13 := NB746_747.out; have hnc13 := NB747_746.out; have hcz14_0 := zc0 BK746; have hcz14_1 := zc1 BK746; have hfz14_0 := blk_frozen BK746.out 0; have hfz14_1 := blk_frozen BK746.out 1; have hnb15 := NB747_740.out; have hnc15 := NB740_747.out; have hnb16 := NB747_741.out; have hnc16 := NB741_747.out; have hcz17_0 := zc0 BK747; have hcz17_1 := zc1 BK747; have hfz17_0 := blk_frozen BK747.out 0; have hfz17_1 := blk_frozen BK747.out 1))
   have pi751 : (0 ≤ ((ji3) : Int)) = True := eq_true (of_decide_eq_true (by first | (with_reducible assumption) | assumption))
   have qi751 : ((ji3) < (y748.length : Int)) = True := eq_true (of_decide_eq_true (by first | (with_reducible assumption) | assumption))
   have n0_ : Aside0 (((((w10.setCell ⟨gb746, 0, none⟩ (.int .i64 t742)).setCell ⟨gb746, 1, none⟩ (.int .i64 t743)).setCell ⟨gb747, 0, none⟩ (.int .i64 t744)).setCell ⟨gb747, 1, none⟩ (.int .i64 t745)).heap[gb740]? = some (.cells #[.int .i64 0, .int .i64 0] 23 (0, 0))) := ⟨by (with_reducible repeat (first | refine blk_drewN ?_ _ | refine blk_drew ?_ | refine blk_alloc ?_ _)); refine blk_far ?_ NB740_747.out _; (with_reducible repeat (first | refine blk_drewN ?_ _ | refine blk_drew ?_ | refine blk_alloc ?_ _)); refine blk_far ?_ NB740_747.out _; (with_reducible repeat (first | refine blk_drewN ?_ _ | refine blk_drew ?_ | refine blk_alloc ?_ _)); refine blk_far ?_ NB740_746.out _; (with_reducible repeat (first | refine blk_drewN ?_ _ | refine blk_drew ?_ | refine blk_alloc ?_ _)); refine blk_far ?_ NB740_746.out _; (with_reducible repeat (first | refine blk_drewN ?_ _ | refine blk_drew ?_ | refine blk_alloc ?_ _)); exact BK740.out⟩
   have n1_ : Aside0 (((((w10.setCell ⟨gb746, 0, none⟩ (.int .i64 t742)).setCell ⟨gb746, 1, none⟩ (.int .i64 t743)).setCell ⟨gb747, 0, none⟩ (.int .i64 t744)).setCell ⟨gb747, 1, none⟩ (.int .i64 t745)).heap[gb741]? = some (.cells #[.int .i64 0, .int .i64 0] 23 (0, 0))) := ⟨by (with_reducible repeat (first | refine blk_drewN ?_ _ | refine blk_drew ?_ | refine blk_alloc ?_ _)); refine blk_far ?_ NB741_747.out _; (with_reducible repeat (first | refine blk_drewN ?_ _ | refine blk_drew ?_ | refine blk_alloc ?_ _)); refine blk_far ?_ NB741_747.out _; (with_reducible repeat (first | refine blk_drewN ?_ _ | refine blk_drew ?_ | refine blk_alloc ?_ _)); refine blk_far ?_ NB741_746.out _; (with_reducible repeat (first | refine blk_drewN ?_ _ | refine blk_drew ?_ | refine blk_alloc ?_ _)); refine blk_far ?_ NB741_746.out _; (with_reducible repeat (first | refine blk_drewN ?_ _ | refine blk_drew ?_ | refine blk_alloc ?_ _)); exact BK741.out⟩
   have n2_ : Aside0 (((((w10.setCell ⟨gb746, 0, none⟩ (.int .i64 t742)).setCell ⟨gb746, 1, none⟩ (.int .i64 t743)).setCell ⟨gb747, 0, none⟩ (.int .i64 t744)).setCell ⟨gb747, 1, none⟩ (.int .i64 t745)).heap[gb746]? = some (.cells #[.int .i64 t742, .int .i64 t743] 23 (0, 0))) := ⟨by (with_reducible repeat (first | refine blk_drewN ?_ _ | refine blk_drew ?_ | refine blk_alloc ?_ _)); refine blk_far ?_ NB746_747.out _; (with_reducible repeat (first | refine blk_drewN ?_ _ | refine blk_drew ?_ | refine blk_alloc ?_ _)); refine blk_far ?_ NB746_747.out _; (with_reducible repeat (first | refine blk_drewN ?_ _ | refine blk_drew ?_ | refine blk_alloc ?_ _)); refine blk_put (cs := #[.int .i64 t742, .int .i64 0]) ?_ 1 _ rfl; (with_reducible repeat (first | refine blk_drewN ?_ _ | refine blk_drew ?_ | refine blk_alloc ?_ _)); refine blk_put (cs := #[.int .i64 0, .int .i64 0]) ?_ 0 _ rfl; (with_reducible repeat (first | refine blk_drewN ?_ _ | refine blk_drew ?_ | refine blk_alloc ?_ _)); exact BK746.out⟩
   have n3_ : Aside0 (((((w10.setCell ⟨gb746, 0, none⟩ (.int .i64 t742)).setCell ⟨gb746, 1, none⟩ (.int .i64 t743)).setCell ⟨gb747, 0, none⟩ (.int .i64 t744)).setCell ⟨gb747, 1, none⟩ (.int .i64 t745)).heap[gb747]? = some (.cells #[.int .i64 t744, .int .i64 t745] 23 (0, 0))) := ⟨by (with_reducible repeat (first | refine blk_drewN ?_ _ | refine blk_drew ?_ | refine blk_alloc ?_ _)); refine blk_put (cs := #[.int .i64 t744, .int .i64 0]) ?_ 1 _ rfl; (with_reducible repeat (first | refine blk_drewN ?_ _ | refine blk_drew ?_ | refine blk_alloc ?_ _)); refine blk_put (cs := #[.int .i64 0, .int .i64 0]) ?_ 0 _ rfl; (with_reducible repeat (first | refine blk_drewN ?_ _ | refine blk_drew ?_ | refine blk_alloc ?_ _)); refine blk_far ?_ NB747_746.out _; (with_reducible repeat (first | refine blk_drewN ?_ _ | refine blk_drew ?_ | refine blk_alloc ?_ _)); refine blk_far ?_ NB747_746.out _; (with_reducible repeat (first | refine blk_drewN ?_ _ | refine blk_drew ?_ | refine blk_alloc ?_ _)); exact BK747.out⟩
   have n4_ : Aside0 (Below w.heap.size w ((((w10.setCell ⟨gb746, 0, none⟩ (.int .i64 t742)).setCell ⟨gb746, 1, none⟩ (.int .i64 t743)).setCell ⟨gb747, 0, none⟩ (.int .i64 t744)).setCell ⟨gb747, 1, none⟩ (.int .i64 t745))) := ⟨zB4 HB GE740 GE741 GE746 GE747⟩
   (try clear BK740)
   (try clear BK741)
   (try clear BK746)
   (try clear BK747)
   (try clear HB)
   generalize ((((w10.setCell ⟨gb746, 0, none⟩ (.int .i64 t742)).setCell ⟨gb746, 1, none⟩ (.int .i64 t743)).setCell ⟨gb747, 0, none⟩ (.int .i64 t744)).setCell ⟨gb747, 1, none⟩ (.int .i64 t745)) = w18 at n0_ n1_ n2_ n3_ n4_ ⊢
   have BK740 := n0_
   have BK741 := n1_
   have BK746 := n2_
   have BK747 := n3_
   have HB := n4_
   clear n0_ n1_ n2_ n3_ n4_
   have n0_ := zA (blk_drew BK740.out)
   have n1_ := zA (blk_drew BK741.out)
   have n2_ := zA (blk_drew BK746.out)
   have n3_ := zA (blk_drew BK747.out)
   have n4_ := zA (below_drew1 HB.out)
   clear BK740
   clear BK741
   clear BK746
   clear BK747
   clear HB
   have BK740 := n0_
   have BK741 := n1_
   have BK746 := n2_
   have BK747 := n3_
   have HB := n4_
   clear n0_ n1_ n2_ n3_ n4_
   refine start_ (n := 11) (S := fun w' => True) (ds := []) #[false, false, false, false, false, false, false, false, false, false, false] (by kernel_rfl) rfl rfl trivial (fun hHeld => ?_); refine with_tabW spec_DrawJoinTables.tab2 spec_DrawJoinTables.bits2 (fun HT_ HW_ => ?_)
   generalize w18.drew = w19 at BK740 BK741 BK746 BK747 HB hHeld ⊢
   refine pure_ (i := 3) (N := some 15) (v := ?_) (a' := ?_) #[false, false, false, true, false, false, false, false, false, false, false] rfl rfl (any_of HT_.out (by kernel_rfl)) (fun _ _ _ h => h) (Or.inl ⟨by rfl, ?_⟩) ?_ ?_
   rotate_left
   ·intro w'
    go_simp
    with_reducible rfl
   rotate_left
   ·simp only [Act.put, List.setIfInBounds_toArray, List.set_cons_zero, List.set_cons_succ, i64_w, i32_w]
    rfl
   refine inv_at [0, 1, 2, 4, 5, 6, 7, 8, 9, 10] (fun a0_ b a w' => ∃ (v749 : Value) (adz_v749 : Addr) (m6_ : Value), a = putSel a0_ b [(0, 12, .agg #[.int .i64 t742, .int .i64 t743]), (1, 13, .agg #[.int .i64 t744, .int .i64 t745]), (2, 14, v749), (4, 16, .int .i64 (l0.length : Int)), (5, 17, .int .i64 ji3), (6, 18, m6_), (7, 19, .int .i64 (rd y748 (ji3))), (10, 4, .int .i64 (rd y748 (ji3)))] ∧ (b 8 = false → w'.heap[gb740]? = some (.cells #[.int .i64 0, .int .i64 0] 23 (0, 0))) ∧ (b 9 = false → w'.heap[gb741]? = some (.cells #[.int .i64 0, .int .i64 0] 23 (0, 0))) ∧ (w'.heap[gb746]? = some (.cells #[.int .i64 t742, .int .i64 t743] 23 (0, 0))) ∧ (w'.heap[gb747]? = some (.cells #[.int .i64 t744, .int .i64 t745] 23 (0, 0))) ∧ (Below w.heap.size w w') ∧ (b 2 = true → Kd.R (Kd.int .i64) 3 w' w.heap.size (fun _ => True) v749 y748) ∧ (b 2 = true → ∃ c_, (v749 : Value) = .slice (some adz_v749) y748.length c_) ∧ (b 8 = true → w'.heap[gb740]? = some (.cells #[.int .i64 t742, .int .i64 t743] 23 (0, 0))) ∧ (b 9 = true → w'.heap[gb741]? = some (.cells #[.int .i64 t744, .int .i64 t745] 23 (0, 0))) ∧ (b 6 = true → (m6_ : Value) = .pointer (some (adz_v749.add ((ji3)).toNat)))) HT_.out HW_.out (by kernel_rfl) (by kernel_rfl) ?_ ?_ ?_
   ·exact ⟨.bool false, ⟨0, 0, none⟩, .bool false, by simp only [putSel, Bool.false_eq_true, if_false], fun _ => BK740.out, fun _ => BK741.out, BK746.out, BK747.out, HB.out, fun h_ => absurd h_ (by decide), fun h_ => absurd h_ (by decide), fun h_ => absurd h_ (by decide), fun h_ => absurd h_ (by decide), fun h_ => absurd h_ (by decide)⟩
   ·skip
    clear BK740 BK741 BK746 BK747 HB
    refine steps_cons ?_ ?_
    ·rintro b a w' ⟨v749, adz_v749, m6_, ha, Q_BK740, Q_BK741, Q_BK746, Q_BK747, Q_HB, Q_HO750, Q_HA_HO750, Q_BK740_e8, Q_BK741_e9, Q_X6_⟩ hb_ hon hoff
     refine ⟨_, rfl, fun K hK => ?_⟩
     have e5 : a.tmps[5]? = some (.pointer (some ⟨gb746, 0, none⟩)) := by rw [ha]; exact (putSel_off rfl).trans rfl
     replace ha := zA ha
     have BK740 := zA (Q_BK740 (hoff 8 (by kernel_rfl)))
     have BK741 := zA (Q_BK741 (hoff 9 (by kernel_rfl)))
     have BK746 := zA Q_BK746
     have BK747 := zA Q_BK747
     have HB := zA Q_HB
     have hc0_ : w'.cell? ⟨gb746, 0, none⟩ = some (.int .i64 t742) := (blk_cell BK746.out 0).trans rfl
     have hc1_ : w'.cell? ⟨gb746, 1, none⟩ = some (.int .i64 t743) := (blk_cell BK746.out 1).trans rfl
     refine value_ (w1 := w') (v := .agg #[.int .i64 t742, .int .i64 t743]) (by rfl) rfl ?_ ?_
     ·go_simp
      (try simp only [i64_w])
      try rfl
      try assumption
     refine hK.out _ _ ⟨v749, adz_v749, m6_, (by rw [ha.out]; exact putSel_upk 0 hb_ rfl rfl rfl), Q_BK740, Q_BK741, Q_BK746, Q_BK747, Q_HB, Q_HO750, Q_HA_HO750, fun h0_ => absurd ((hoff 8 (by kernel_rfl)).symm.trans h0_) (by decide), fun h0_ => absurd ((hoff 9 (by kernel_rfl)).symm.trans h0_) (by decide), Q_X6_⟩
    refine steps_cons ?_ ?_
    ·rintro b a w' ⟨v749, adz_v749, m6_, ha, Q_BK740, Q_BK741, Q_BK746, Q_BK747, Q_HB, Q_HO750, Q_HA_HO750, Q_BK740_e8, Q_BK741_e9, Q_X6_⟩ hb_ hon hoff
     refine ⟨_, rfl, fun K hK => ?_⟩
     have e6 : a.tmps[6]? = some (.pointer (some ⟨gb747, 0, none⟩)) := by rw [ha]; exact (putSel_off rfl).trans rfl
     replace ha := zA ha
     have BK741 := zA (Q_BK741 (hoff 9 (by kernel_rfl)))
     have BK746 := zA Q_BK746
     have BK747 := zA Q_BK747
     have HB := zA Q_HB
     have hc0_ : w'.cell? ⟨gb747, 0, none⟩ = some (.int .i64 t744) := (blk_cell BK747.out 0).trans rfl
     have hc1_ : w'.cell? ⟨gb747, 1, none⟩ = some (.int .i64 t745) := (blk_cell BK747.out 1).trans rfl
     refine value_ (w1 := w') (v := .agg #[.int .i64 t744, .int .i64 t745]) (by rfl) rfl ?_ ?_
     ·go_simp
      (try simp only [i64_w])
      try rfl
      try assumption
     refine hK.out _ _ ⟨v749, adz_v749, m6_, (by rw [ha.out]; exact putSel_upk 1 hb_ rfl rfl rfl), Q_BK740, Q_BK741, Q_BK746, Q_BK747, Q_HB, Q_HO750, Q_HA_HO750, Q_BK740_e8, fun h0_ => absurd ((hoff 9 (by kernel_rfl)).symm.trans h0_) (by decide), Q_X6_⟩
    refine steps_cons ?_ ?_
    ·rintro b a w' ⟨v749, adz_v749, m6_, ha, Q_BK740, Q_BK741, Q_BK746, Q_BK747, Q_HB, Q_HO750, Q_HA_HO750, Q_BK740_e8, Q_BK741_e9, Q_X6_⟩ hb_ hon hoff
     refine ⟨_, rfl, fun K hK => ?_⟩
     replace ha := zA ha
     have BK746 := zA Q_BK746
     have BK747 := zA Q_BK747
     have HB := zA Q_HB
     refine Kd.R_lit_step (Kd.int .i64) _ 3 ?hg (N := 14) ?hd (xs := ([0, 1, 2, 3, 4, (-1), 5] : List Int)) (inner := [.int .i64 0, .int .i64 1, .int .i64 2, .int .i64 3, .int .i64 4, .int .i64 (-1), .int .i64 5]) (ok := fun _ => True) (okp := fun _ => True) ?hr ?hp (fun _ hk => hk) trivial (Below.refl _ _) (Nat.le_refl _) (by simp) ?_; (case hd => rfl); (case hg => rfl); (case hr => exact zH); (case hp => exact (Reps.one (show Kd.M (Kd.int .i64) _ _ _ 0 [.int .i64 0] from rfl) (Reps.one (show Kd.M (Kd.int .i64) _ _ _ 1 [.int .i64 1] from rfl) (Reps.one (show Kd.M (Kd.int .i64) _ _ _ 2 [.int .i64 2] from rfl) (Reps.one (show Kd.M (Kd.int .i64) _ _ _ 3 [.int .i64 3] from rfl) (Reps.one (show Kd.M (Kd.int .i64) _ _ _ 4 [.int .i64 4] from rfl) (Reps.one (show Kd.M (Kd.int .i64) _ _ _ (-1) [.int .i64 (-1)] from rfl) (Reps.one (show Kd.M (Kd.int .i64) _ _ _ 5 [.int .i64 5] from rfl) (Reps.none _ _)))))))))
     intro v749 w20 ho21 hb hg_ hnew_
     clear hg_ hnew_
     (first | rw [← Ny748.out] at ho21 | (simp only [Int.reduceToNat] at ho21; rw [← Ny748.out] at ho21))
     have n0_ := zA (Kd.R_lower ho21 (below_size (zB4 HB GE740 GE741 GE746 GE747)))
     have n3_ := zb BK746 hb
     have n4_ := zb BK747 hb
     have n5_ := zA (below_step (zB4 HB GE740 GE741 GE746 GE747) hb)
     have z_BK740 := fun (h0_ : b 8 = false) => (show w20.heap[gb740]? = some (.cells #[.int .i64 0, .int .i64 0] 23 (0, 0)) from by first | exact (blk_below (g := gb740) (o := .cells #[.int .i64 0, .int .i64 0] 23 (0, 0)) (by (with_reducible repeat (first | refine blk_drewN ?_ _ | refine blk_drew ?_ | refine blk_alloc ?_ _)); exact (Q_BK740 h0_)) hb))
     have z_BK741 := fun (h0_ : b 9 = false) => (show w20.heap[gb741]? = some (.cells #[.int .i64 0, .int .i64 0] 23 (0, 0)) from by first | exact (blk_below (g := gb741) (o := .cells #[.int .i64 0, .int .i64 0] 23 (0, 0)) (by (with_reducible repeat (first | refine blk_drewN ?_ _ | refine blk_drew ?_ | refine blk_alloc ?_ _)); exact (Q_BK741 h0_)) hb))
     have z_BK740_e8 := fun (h0_ : b 8 = true) => (show w20.heap[gb740]? = some (.cells #[.int .i64 t742, .int .i64 t743] 23 (0, 0)) from by first | exact (blk_below (g := gb740) (o := .cells #[.int .i64 t742, .int .i64 t743] 23 (0, 0)) (by (with_reducible repeat (first | refine blk_drewN ?_ _ | refine blk_drew ?_ | refine blk_alloc ?_ _)); exact (Q_BK740_e8 h0_)) hb))
     have z_BK741_e9 := fun (h0_ : b 9 = true) => (show w20.heap[gb741]? = some (.cells #[.int .i64 t744, .int .i64 t745] 23 (0, 0)) from by first | exact (blk_below (g := gb741) (o := .cells #[.int .i64 t744, .int .i64 t745] 23 (0, 0)) (by (with_reducible repeat (first | refine blk_drewN ?_ _ | refine blk_drew ?_ | refine blk_alloc ?_ _)); exact (Q_BK741_e9 h0_)) hb))
     clear BK746
     clear BK747
     clear HB
     have HO750 := n0_
     have BK746 := n3_
     have BK747 := n4_
     have HB := n5_
     clear n0_ n3_ n4_ n5_
     clear hb ho21
     obtain ⟨Ao22, co22, eo22⟩ := Kd.R_slice HO750.out
     subst eo22
     obtain ⟨ado22, fo22, _⟩ := Kd.at_int (Kd.R_reads' HO750.out).2.2 0 (by decide) (by rw [Ny748.out]; simp)
     cases fo22
     refine hK.out _ _ ⟨.slice (some ado22) y748.length co22, ado22, m6_, (by rw [ha.out]; exact putSel_upk 2 hb_ rfl rfl rfl), z_BK740, z_BK741, (zD BK746), (zD BK747), (zB4 HB GE740 GE741 GE746 GE747), fun _ => (zR HO750), fun _ => ⟨_, rfl⟩, z_BK740_e8, z_BK741_e9, fun h0_ => absurd ((hoff 6 (by kernel_rfl)).symm.trans h0_) (by decide)⟩
    refine steps_cons ?_ ?_
    ·rintro b a w' ⟨v749, adz_v749, m6_, ha, Q_BK740, Q_BK741, Q_BK746, Q_BK747, Q_HB, Q_HO750, Q_HA_HO750, Q_BK740_e8, Q_BK741_e9, Q_X6_⟩ hb_ hon hoff
     refine ⟨_, rfl, fun K hK => ?_⟩
     have e15 : a.tmps[15]? = some (.slice A0 l0.length c0) := by rw [ha]; exact (putSel_off rfl).trans rfl
     replace ha := zA ha
     have BK746 := zA Q_BK746
     have BK747 := zA Q_BK747
     have HB := zA Q_HB
     refine value_ (w1 := w') (v := .int .i64 (l0.length : Int)) (by rfl) rfl ?_ ?_
     ·go_simp
      (try simp only [i64_w])
      try rfl
      try assumption
     refine hK.out _ _ ⟨v749, adz_v749, m6_, (by rw [ha.out]; exact putSel_upk 3 hb_ rfl rfl rfl), Q_BK740, Q_BK741, Q_BK746, Q_BK747, Q_HB, Q_HO750, Q_HA_HO750, Q_BK740_e8, Q_BK741_e9, fun h0_ => absurd ((hoff 6 (by kernel_rfl)).symm.trans h0_) (by decide)⟩
    refine steps_cons ?_ ?_
    ·rintro b a w' ⟨v749, adz_v749, m6_, ha, Q_BK740, Q_BK741, Q_BK746, Q_BK747, Q_HB, Q_HO750, Q_HA_HO750, Q_BK740_e8, Q_BK741_e9, Q_X6_⟩ hb_ hon hoff
     refine ⟨_, rfl, fun K hK => ?_⟩
     have e16 : a.tmps[16]? = some (.int .i64 (l0.length : Int)) := by rw [ha]; exact putSel_on (e := (4, 16, .int .i64 (l0.length : Int))) 3 rfl rfl (hon 4 (by kernel_rfl)) rfl
     replace ha := zA ha
     have BK746 := zA Q_BK746
     have BK747 := zA Q_BK747
     have HB := zA Q_HB
     refine value_ (w1 := w') (v := .int .i64 ji3) (by rfl) rfl ?_ ?_
     ·go_simp
      (try simp only [i64_w])
      try rfl
      try assumption
     refine hK.out _ _ ⟨v749, adz_v749, m6_, (by rw [ha.out]; exact putSel_upk 4 hb_ rfl rfl rfl), Q_BK740, Q_BK741, Q_BK746, Q_BK747, Q_HB, Q_HO750, Q_HA_HO750, Q_BK740_e8, Q_BK741_e9, fun h0_ => absurd ((hoff 6 (by kernel_rfl)).symm.trans h0_) (by decide)⟩
    refine steps_cons ?_ ?_
    ·rintro b a w' ⟨v749, adz_v749, m6_, ha, Q_BK740, Q_BK741, Q_BK746, Q_BK747, Q_HB, Q_HO750, Q_HA_HO750, Q_BK740_e8, Q_BK741_e9, Q_X6_⟩ hb_ hon hoff
     refine ⟨_, rfl, fun K hK => ?_⟩
     have e14 : a.tmps[14]? = some (v749) := by rw [ha]; exact putSel_on (e := (2, 14, v749)) 2 rfl rfl (hon 2 (by kernel_rfl)) rfl
     have e17 : a.tmps[17]? = some (.int .i64 ji3) := by rw [ha]; exact putSel_on (e := (5, 17, .int .i64 ji3)) 4 rfl rfl (hon 5 (by kernel_rfl)) rfl
     replace ha := zA ha
     have BK746 := zA Q_BK746
     have BK747 := zA Q_BK747
     have HB := zA Q_HB
     have HO750 := zA (Q_HO750 (hon 2 (by kernel_rfl)))
     have HA_HO750 := zA (Q_HA_HO750 (hon 2 (by kernel_rfl)))
     obtain ⟨c_, hv_⟩ := HA_HO750.out
     rw [hv_] at e14
     refine value_ (w1 := w') (v := .pointer (some (adz_v749.add ((ji3)).toNat))) (by rfl) rfl ?_ ?_
     ·go_simp
      (try simp only [i64_w])
      try rfl
      try assumption
     refine hK.out _ _ ⟨v749, adz_v749, (.pointer (some (adz_v749.add ((ji3)).toNat))), (by rw [ha.out]; exact putSel_upk 5 hb_ rfl rfl rfl), Q_BK740, Q_BK741, Q_BK746, Q_BK747, Q_HB, Q_HO750, Q_HA_HO750, Q_BK740_e8, Q_BK741_e9, fun _ => rfl⟩
    refine steps_cons ?_ ?_
    ·rintro b a w' ⟨v749, adz_v749, m6_, ha, Q_BK740, Q_BK741, Q_BK746, Q_BK747, Q_HB, Q_HO750, Q_HA_HO750, Q_BK740_e8, Q_BK741_e9, Q_X6_⟩ hb_ hon hoff
     refine ⟨_, rfl, fun K hK => ?_⟩
     have e18 : a.tmps[18]? = some (m6_) := by rw [ha]; exact putSel_on (e := (6, 18, m6_)) 5 rfl rfl (hon 6 (by kernel_rfl)) rfl
     rw [Q_X6_ (hon 6 (by kernel_rfl))] at e18
     replace ha := zA ha
     have BK746 := zA Q_BK746
     have BK747 := zA Q_BK747
     have HB := zA Q_HB
     have HO750 := zA (Q_HO750 (hon 2 (by kernel_rfl)))
     have HA_HO750 := zA (Q_HA_HO750 (hon 2 (by kernel_rfl)))
     obtain ⟨c_, hv_⟩ := HA_HO750.out
     have hF_ := HO750.out
     rw [hv_] at hF_
     obtain ⟨ad_, ea_, hx_⟩ := Kd.at_int (Kd.R_reads' hF_).2.2 (ji3) (of_eq_true pi751) (of_eq_true qi751)
     cases ea_
     refine value_ (w1 := w') (v := .int .i64 (rd y748 (ji3))) (by rfl) rfl ?_ ?_
     ·go_simp
      (try simp only [i64_w])
      try rfl
      try assumption
     refine hK.out _ _ ⟨v749, adz_v749, m6_, (by rw [ha.out]; exact putSel_upk 6 hb_ rfl rfl rfl), Q_BK740, Q_BK741, Q_BK746, Q_BK747, Q_HB, Q_HO750, Q_HA_HO750, Q_BK740_e8, Q_BK741_e9, Q_X6_⟩
    refine steps_cons ?_ ?_
    ·rintro b a w' ⟨v749, adz_v749, m6_, ha, Q_BK740, Q_BK741, Q_BK746, Q_BK747, Q_HB, Q_HO750, Q_HA_HO750, Q_BK740_e8, Q_BK741_e9, Q_X6_⟩ hb_ hon hoff
     refine ⟨_, rfl, fun K hK => ?_⟩
     have e2 : a.tmps[2]? = some (.pointer (some ⟨gb740, 0, none⟩)) := by rw [ha]; exact (putSel_off rfl).trans rfl
     have e12 : a.tmps[12]? = some (.agg #[.int .i64 t742, .int .i64 t743]) := by rw [ha]; exact putSel_on (e := (0, 12, .agg #[.int .i64 t742, .int .i64 t743])) 0 rfl rfl (hon 0 (by kernel_rfl)) rfl
     replace ha := zA ha
     have BK740 := zA (Q_BK740 hb_)
     have BK741 := zA (Q_BK741 (hoff 9 (by kernel_rfl)))
     have BK746 := zA Q_BK746
     have BK747 := zA Q_BK747
     have HB := zA Q_HB
     have hs20 : w'.cell? ⟨gb740, 0, none⟩ = some (.int .i64 0) := (blk_cell BK740.out 0).trans rfl
     have hfs20 := blk_frozen BK740.out 0
     have hns20_1 := NB741_740.out
     have hns20_2 := NB746_740.out
     have hns20_3 := NB747_740.out
     have hms20_1 := NB740_741.out
     have hms20_2 := NB740_746.out
     have hms20_3 := NB740_747.out
     have hs21 : w'.cell? ⟨gb740, 1, none⟩ = some (.int .i64 0) := (blk_cell BK740.out 1).trans rfl
     have hfs21 := blk_frozen BK740.out 1
     have hns21_1 := NB741_740.out
     have hns21_2 := NB746_740.out
     have hns21_3 := NB747_740.out
     have hms21_1 := NB740_741.out
     have hms21_2 := NB740_746.out
     have hms21_3 := NB740_747.out
     refine skip_ (w1 := ?_) (by rfl) rfl ?_ ?_
     rotate_left
     ·go_simp
      rfl
     refine hK.out _ _ ⟨v749, adz_v749, m6_, (by rw [ha.out]; exact putSel_none (v := undef) rfl), fun h0_ => absurd ((up_self b 8).symm.trans h0_) (by decide), fun _ => (zF BK741 NB741_740), (zF BK746 NB746_740), (zF BK747 NB747_740), (zB4 HB GE740 GE741 GE746 GE747), fun h0_ => (by (with_reducible repeat (first | apply Kd.R_alloc | apply Kd.R_drewN | apply Kd.R_drew)); exact Kd.R_mono (Kd.R_far (p := ⟨gb740, 1, none⟩) (Kd.R_far (p := ⟨gb740, 0, none⟩) (Kd.R_types (Q_HO750 h0_) BK740.out (by decide)) (fun _ hk => hk.2) (.int .i64 t742)) (fun _ hk => hk.2) (.int .i64 t743)) (fun _ hk => trivial)), Q_HA_HO750, fun _ => (zP BK740), fun h0_ => absurd ((hoff 9 (by kernel_rfl)).symm.trans h0_) (by decide), Q_X6_⟩
    refine steps_cons ?_ ?_
    ·rintro b a w' ⟨v749, adz_v749, m6_, ha, Q_BK740, Q_BK741, Q_BK746, Q_BK747, Q_HB, Q_HO750, Q_HA_HO750, Q_BK740_e8, Q_BK741_e9, Q_X6_⟩ hb_ hon hoff
     refine ⟨_, rfl, fun K hK => ?_⟩
     have e3 : a.tmps[3]? = some (.pointer (some ⟨gb741, 0, none⟩)) := by rw [ha]; exact (putSel_off rfl).trans rfl
     have e13 : a.tmps[13]? = some (.agg #[.int .i64 t744, .int .i64 t745]) := by rw [ha]; exact putSel_on (e := (1, 13, .agg #[.int .i64 t744, .int .i64 t745])) 1 rfl rfl (hon 1 (by kernel_rfl)) rfl
     replace ha := zA ha
     have BK741 := zA (Q_BK741 hb_)
     have BK746 := zA Q_BK746
     have BK747 := zA Q_BK747
     have HB := zA Q_HB
     have BK740 := zA (Q_BK740_e8 (hon 8 (by kernel_rfl)))
     have hs23 : w'.cell? ⟨gb741, 0, none⟩ = some (.int .i64 0) := (blk_cell BK741.out 0).trans rfl
     have hfs23 := blk_frozen BK741.out 0
     have hns23_0 := NB740_741.out
     have hns23_2 := NB746_741.out
     have hns23_3 := NB747_741.out
     have hms23_0 := NB741_740.out
     have hms23_2 := NB741_746.out
     have hms23_3 := NB741_747.out
     have hs24 : w'.cell? ⟨gb741, 1, none⟩ = some (.int .i64 0) := (blk_cell BK741.out 1).trans rfl
     have hfs24 := blk_frozen BK741.out 1
     have hns24_0 := NB740_741.out
     have hns24_2 := NB746_741.out
     have hns24_3 := NB747_741.out
     have hms24_0 := NB741_740.out
     have hms24_2 := NB741_746.out
     have hms24_3 := NB741_747.out
     refine skip_ (w1 := ?_) (by rfl) rfl ?_ ?_
     rotate_left
     ·go_simp
      rfl
     refine hK.out _ _ ⟨v749, adz_v749, m6_, (by rw [ha.out]; exact putSel_none (v := undef) rfl), fun h0_ => absurd ((hon 8 (by kernel_rfl)).symm.trans h0_) (by decide), fun h0_ => absurd ((up_self b 9).symm.trans h0_) (by decide), (zF BK746 NB746_741), (zF BK747 NB747_741), (zB4 HB GE740 GE741 GE746 GE747), fun h0_ => (by (with_reducible repeat (first | apply Kd.R_alloc | apply Kd.R_drewN | apply Kd.R_drew)); exact Kd.R_mono (Kd.R_far (p := ⟨gb741, 1, none⟩) (Kd.R_far (p := ⟨gb741, 0, none⟩) (Kd.R_types (Q_HO750 h0_) BK741.out (by decide)) (fun _ hk => hk.2) (.int .i64 t744)) (fun _ hk => hk.2) (.int .i64 t745)) (fun _ hk => trivial)), Q_HA_HO750, fun _ => (zF BK740 NB740_741), fun _ => (zP BK741), Q_X6_⟩
    refine steps_cons ?_ ?_
    ·rintro b a w' ⟨v749, adz_v749, m6_, ha, Q_BK740, Q_BK741, Q_BK746, Q_BK747, Q_HB, Q_HO750, Q_HA_HO750, Q_BK740_e8, Q_BK741_e9, Q_X6_⟩ hb_ hon hoff
     refine ⟨_, rfl, fun K hK => ?_⟩
     have e19 : a.tmps[19]? = some (.int .i64 (rd y748 (ji3))) := by rw [ha]; exact putSel_on (e := (7, 19, .int .i64 (rd y748 (ji3)))) 6 rfl rfl (hon 7 (by kernel_rfl)) rfl
     replace ha := zA ha
     have BK746 := zA Q_BK746
     have BK747 := zA Q_BK747
     have HB := zA Q_HB
     have HO750 := zA (Q_HO750 (hon 2 (by kernel_rfl)))
     have HA_HO750 := zA (Q_HA_HO750 (hon 2 (by kernel_rfl)))
     have BK740 := zA (Q_BK740_e8 (hon 8 (by kernel_rfl)))
     have BK741 := zA (Q_BK741_e9 (hon 9 (by kernel_rfl)))
     refine value_ (w1 := w') (v := .int .i64 (rd y748 (ji3))) (by rfl) rfl ?_ ?_
     ·go_simp
      (try simp only [i64_w])
      try rfl
      try assumption
     refine hK.out _ _ ⟨v749, adz_v749, m6_, (by rw [ha.out]; exact putSel_upk 7 hb_ rfl rfl rfl), fun h0_ => absurd ((hon 8 (by kernel_rfl)).symm.trans h0_) (by decide), fun h0_ => absurd ((hon 9 (by kernel_rfl)).symm.trans h0_) (by decide), Q_BK746, Q_BK747, Q_HB, Q_HO750, Q_HA_HO750, Q_BK740_e8, Q_BK741_e9, Q_X6_⟩
    exact steps_nil
   rintro b a w27 hall ⟨v749, adz_v749, m6_, ha, Q_BK740, Q_BK741, Q_BK746, Q_BK747, Q_HB, Q_HO750, Q_HA_HO750, Q_BK740_e8, Q_BK741_e9, Q_X6_⟩
   clear BK740 BK741 BK746 BK747 HB
   have hb0_ := hall 0 (by kernel_rfl)
   have hb1_ := hall 1 (by kernel_rfl)
   have hb2_ := hall 2 (by kernel_rfl)
   have hb4_ := hall 4 (by kernel_rfl)
   have hb5_ := hall 5 (by kernel_rfl)
   have hb6_ := hall 6 (by kernel_rfl)
   have hb7_ := hall 7 (by kernel_rfl)
   have hb8_ := hall 8 (by kernel_rfl)
   have hb9_ := hall 9 (by kernel_rfl)
   have hb10_ := hall 10 (by kernel_rfl)
   subst ha
   obtain rfl := Q_X6_ hb6_
   simp only [putSel, hb0_, hb1_, hb2_, hb4_, hb5_, hb6_, hb7_, hb8_, hb9_, hb10_, if_true, Act.put, List.setIfInBounds_toArray, List.set_cons_zero, List.set_cons_succ]
   clear Q_BK740
   clear Q_BK741
   have BK746 := zA Q_BK746
   clear Q_BK746
   have BK747 := zA Q_BK747
   clear Q_BK747
   have HB := zA Q_HB
   clear Q_HB
   have HO750 := zA (Q_HO750 hb2_)
   clear Q_HO750
   have HA_HO750 := zA (Q_HA_HO750 hb2_)
   clear Q_HA_HO750
   have BK740 := zA (Q_BK740_e8 hb8_)
   clear Q_BK740_e8
   have BK741 := zA (Q_BK741_e9 hb9_)
   clear Q_BK741_e9
   clear hall hb0_ hb1_ hb2_ hb4_ hb5_ hb6_ hb7_ hb8_ hb9_ hb10_
   obtain ⟨co28, eo28⟩ := HA_HO750.out
   clear HA_HO750
   subst eo28
   try go_wp2
   refine bodyPost_ret (results_list (rs := [.cell 2 23, .cell 3 23, .tmp 4]) rfl (by simp) (.cell gb740 23 #[.int .i64 t742, .int .i64 t743] (0, 0) _ rfl (zD BK740) Try.underlying23 rfl (by kernel_rfl) (.cell gb741 23 #[.int .i64 t744, .int .i64 t745] (0, 0) _ rfl (zD BK741) Try.underlying23 rfl (by kernel_rfl) (.tmp .nil)))) rfl ?_
   exact ⟨by first | rfl | (simp [errW_none, errW_some] <;> rfl) | (simp only [← hji3]; first | rfl | (simp [errW_none, errW_some] <;> rfl)) | (simp [*, errW_none, errW_some] <;> rfl), zB4 HB GE740 GE741 GE746 GE747⟩
  ·rw [if_neg c5] at H
   exact absurd H (by simp)
 ·rw [if_neg c4] at H
  exact absurd H (by simp)

/-! ### spec_DrawDependsOn: function 71 -/
def spec_DrawDependsOn.f (k : Nat) (l0 : List Int) : Option (Int × Int × Int) := (spec_l3Var.f k l0).bind fun bt753 => (some (bt753.1, bt753.2.1, bt753.2.2))
theorem spec_DrawDependsOn.mono : ∀ a0 k, LeO (spec_DrawDependsOn.f k a0) (spec_DrawDependsOn.f (k + 1) a0) := by
 intro a0 k
 unfold spec_DrawDependsOn.f
 repeat' first
   | (with_reducible exact spec_l3Var.mono _ _)
   | (with_reducible exact LeO.refl _)
   | (with_reducible exact LeO.none _)
   | (with_reducible refine LeO.ite ?_ ?_)
   | (with_reducible refine LeO.bind ?_ (fun _ => ?_))
   | exact spec_l3Var.mono _ _
   | exact LeO.none _
   | refine LeO.ite ?_ ?_
   | refine LeO.bind ?_ (fun _ => ?_)
set_option maxHeartbeats 8000000 in
set_option maxRecDepth 100000 in
theorem spec_DrawDependsOn.calls (k : Nat) (A0 : Option Addr) (c0 : Nat) (l0 : List Int) (r1 : Int) (r2 : Int) (r3 : Int) (w : World) (hr0 : Kd.C (Kd.int .u8) w A0 l0.length l0) (hc0 : l0.length ≤ c0) (h : spec_DrawDependsOn.f k l0 = some (r1, r2, r3)) :
  Calls Try.prog 71 #[.slice A0 l0.length c0] w fun e w' => e = .returned (.tuple #[.agg #[.int .i64 r1, .int .i64 r2], .int .i64 r3]) ∧ Below w.heap.size w w' := by
 have hu23 := Try.underlying23
 have HR0 := zA hr0
 have HC0 := zA hc0
 clear hr0 hc0
 have HB := zA (Below.refl w.heap.size w)
 have H := h
 unfold spec_DrawDependsOn.f at H
 clear h
 replace H := Option.bind_eq_some_iff.mp H
 obtain ⟨⟨t753, t754, t755⟩, A20, H⟩ := H
 replace H : (some (t753, t754, t755)) = some (r1, r2, r3) := H
 have A2 := zA A20
 clear A20
 simp only [Option.some.injEq, Prod.mk.injEq] at H
 obtain ⟨rfl, rfl, rfl⟩ := H
 go_enter Try.func71, Try.ntmps71
 go_wp2_with (first | ((with_reducible refine gate_dst (N := 2) rfl ?_); refine box_event ?hg (N := 2) ?hd (cs := #[.int .i64 0, .int .i64 0]) (t := 23) ?hr ?_; (case hd => rfl); (case hg => rfl); (case hr => exact zH); intro gb752 hg w3 hbox hb; have BK752 := zA (hbox); have GW752 := zg HB hg; have GE752 := zg HB hg; replace HB := zA (below_step (zB HB) hb); clear hb hbox hg) | ((with_reducible refine gate_callee (f := 118) rfl ?_); refine goesL_ (some 8) rfl rfl Try.func118 (by kernel_rfl) rfl #[.slice A0 l0.length c0] rfl zM ?_; (with_reducible refine (spec_l3Var.calls k _ _ l0 t753 t754 t755 _ ?side1 ?side2 A2.out).mono ?_); (case side1 => repeat (first | exact (Kd.C_below HR0.out HB.out) | (with_reducible refine Kd.C_alloc ?_ _) | (with_reducible refine Kd.C_drewN ?_ _) | (with_reducible refine Kd.C_drew ?_))); (case side2 => exact HC0.out); rintro e w4 ⟨rfl, hb⟩; refine ⟨_, rfl, ?_⟩; replace BK752 := zb BK752 hb; replace HB := zA (below_step (zB1 HB GE752) hb); (try clear hb); (try clear hb2); (try clear hk); (try clear hi)) | ((with_reducible refine gate_dst (N := 4) rfl ?_); refine box_event ?hg (N := 4) ?hd (cs := #[.int .i64 0, .int .i64 0]) (t := 23) ?hr ?_; (case hd => rfl); (case hg => rfl); (case hr => exact zH); intro gb756 hg w5 hbox hb; have BK756 := zA (hbox); have GW756 := zg1 HB GE752 hg; have GE756 := zg1 HB GE752 hg; have NB752_756 := zn BK752 hg; have NB756_752 := zo BK752 hg; replace BK752 := zb BK752 hb; replace HB := zA (below_step (zB1 HB GE752) hb); clear hb hbox hg; have hnb6 := NB756_752.out; have hnc6 := NB752_756.out; have hcz7_0 := zc0 BK756; have hcz7_1 := zc1 BK756; have hfz7_0 := blk_frozen BK756.out 0; have hfz7_1 := blk_frozen BK756.out 1; have hcz8_0 := zc0 BK752; have hcz8_1 := zc1 BK752; have hfz8_0 := blk_frozen BK752.out 0; have hfz8_1 := blk_frozen BK752.out 1))
 refine bodyPost_ret (results_ct rfl _ _ gb752 23 #[.int .i64 t753, .int .i64 t754] (0, 0) _ rfl (by (with_reducible repeat (first | refine blk_drewN ?_ _ | refine blk_drew ?_ | refine blk_alloc ?_ _)); refine blk_put (cs := #[.int .i64 t753, .int .i64 0]) ?_ 1 _ rfl; (with_reducible repeat (first | refine blk_drewN ?_ _ | refine blk_drew ?_ | refine blk_alloc ?_ _)); refine blk_put (cs := #[.int .i64 0, .int .i64 0]) ?_ 0 _ rfl; (with_reducible repeat (first | refine blk_drewN ?_ _ | refine blk_drew ?_ | refine blk_alloc ?_ _)); refine blk_far ?_ NB752_756.out _; (with_reducible repeat (first | refine blk_drewN ?_ _ | refine blk_drew ?_ | refine blk_alloc ?_ _)); refine blk_far ?_ NB752_756.out _; (with_reducible repeat (first | refine blk_drewN ?_ _ | refine blk_drew ?_ | refine blk_alloc ?_ _)); exact BK752.out) Try.underlying23 rfl (by kernel_rfl)) rfl ?_
 exact ⟨by first | rfl | (simp [errW_none, errW_some] <;> rfl) | (simp [*, errW_none, errW_some] <;> rfl), zB2 HB GE752 GE756⟩

end Go.Proofs.Ytijpcemcijaeeaa.P

-- tmod_mended
