/- The functions that this seat's laws reach, each as a plain Lean function, and the walk of each; written by a program over the kit's print. No conditions but those that stand in the theorems. -/
import Derived.Test.YtijpcemcijaeeaaP0
import Derived.Test.YtijpcemcijaeeaaPb6
import Derived.Test.YtijpcemcijaeeaaK8
namespace Go.Proofs.Ytijpcemcijaeeaa.P
open Go.RowKit Go.Proofs.YtijpcemcijaeeaaW.PrintWords Go.Proofs.YtijpcemcijaeeaaW.PrintLast Go.Proofs.YtijpcemcijaeeaaW.PrintMore
attribute [local go_sem] max2_int min2_int max_two min_two max_three min_three max_four min_four   -- for this text's walks alone
set_option linter.unusedVariables false
set_option linter.unusedSimpArgs false

attribute [local go_sem] fld23_0 fld23_1
/-! ### spec_DrawCubeValue: function 72 -/
def spec_DrawCubeValue.f (k : Nat) (l0 : List Int) : Option (Int × Int × Int × Int) := (spec_l1New.f k l0).bind fun bt758 => ((spec_l2Any.f k bt758.1 bt758.2.1 bt758.2.2).bind fun bt762 => ((spec_l1Below.f bt758.1 bt762.2.2.1 bt762.2.2.2 17).bind fun bt767 => ((spec_l1Below.f bt758.1 bt767.2.1 bt767.2.2 17).bind fun bt770 => (some (bt762.1, bt762.2.1, bt767.1, Go.bits .and .i64 bt767.1 bt770.1)))))
theorem spec_DrawCubeValue.mono : ∀ a0 k, LeO (spec_DrawCubeValue.f k a0) (spec_DrawCubeValue.f (k + 1) a0) := by
 intro a0 k
 unfold spec_DrawCubeValue.f
 repeat' first
   | (with_reducible exact spec_l1New.mono _ _)
   | (with_reducible exact spec_l2Any.mono _ _ _ _)
   | (with_reducible exact LeO.refl _)
   | (with_reducible exact LeO.none _)
   | (with_reducible refine LeO.ite ?_ ?_)
   | (with_reducible refine LeO.bind ?_ (fun _ => ?_))
   | exact spec_l1New.mono _ _
   | exact spec_l2Any.mono _ _ _ _
   | exact LeO.none _
   | refine LeO.ite ?_ ?_
   | refine LeO.bind ?_ (fun _ => ?_)
def spec_DrawCubeValue.T4 : Bool × List (List Nat × List Nat) := (true, [([], []), ([], []), ([], []), ([], []), ([3], [3]), ([2, 4], [2, 4]), ([0, 4, 0], [0]), ([1, 6, 0, 1, 6], [1]), ([5, 7, 0, 1, 2, 3, 4, 5, 6, 7], [5])])
def spec_DrawCubeValue.B4 : List Nat := [0, 0, 0, 0, 8, 28, 25, 91, 255]
theorem spec_DrawCubeValue.tab4 : rtab .any (opsOf Try.f72 4) = spec_DrawCubeValue.T4 := by kernel_rfl
theorem spec_DrawCubeValue.bits4 : waitsOk spec_DrawCubeValue.T4.2 spec_DrawCubeValue.B4 = true := by kernel_rfl
set_option maxHeartbeats 8000000 in
set_option maxRecDepth 100000 in
theorem spec_DrawCubeValue.calls (k : Nat) (A0 : Option Addr) (c0 : Nat) (l0 : List Int) (r1 : Int) (r2 : Int) (r3 : Int) (r4 : Int) (w : World) (hr0 : Kd.C (Kd.int .u8) w A0 l0.length l0) (hc0 : l0.length ≤ c0) (h : spec_DrawCubeValue.f k l0 = some (r1, r2, r3, r4)) :
  Calls Try.prog 72 #[.slice A0 l0.length c0] w fun e w' => e = .returned (.tuple #[.agg #[.int .i64 r1, .int .i64 r2], .int .i64 r3, .int .i64 r4]) ∧ Below w.heap.size w w' := by
 have hu23 := Try.underlying23
 have HR0 := zA hr0
 have HC0 := zA hc0
 clear hr0 hc0
 have HB := zA (Below.refl w.heap.size w)
 have H := h
 unfold spec_DrawCubeValue.f at H
 clear h
 replace H := Option.bind_eq_some_iff.mp H
 obtain ⟨⟨t758, t759, t760⟩, A20, H⟩ := H
 replace H : ((spec_l2Any.f k t758 t759 t760).bind fun bt762 => ((spec_l1Below.f t758 bt762.2.2.1 bt762.2.2.2 17).bind fun bt767 => ((spec_l1Below.f t758 bt767.2.1 bt767.2.2 17).bind fun bt770 => (some (bt762.1, bt762.2.1, bt767.1, Go.bits .and .i64 bt767.1 bt770.1))))) = some (r1, r2, r3, r4) := H
 have A2 := zA A20
 clear A20
 replace H := Option.bind_eq_some_iff.mp H
 obtain ⟨⟨t762, t763, t764, t765⟩, A30, H⟩ := H
 replace H : ((spec_l1Below.f t758 t764 t765 17).bind fun bt767 => ((spec_l1Below.f t758 bt767.2.1 bt767.2.2 17).bind fun bt770 => (some (t762, t763, bt767.1, Go.bits .and .i64 bt767.1 bt770.1)))) = some (r1, r2, r3, r4) := H
 have A3 := zA A30
 clear A30
 replace H := Option.bind_eq_some_iff.mp H
 obtain ⟨⟨t767, t768, t769⟩, A40, H⟩ := H
 replace H : ((spec_l1Below.f t758 t768 t769 17).bind fun bt770 => (some (t762, t763, t767, Go.bits .and .i64 t767 bt770.1))) = some (r1, r2, r3, r4) := H
 have A4 := zA A40
 clear A40
 replace H := Option.bind_eq_some_iff.mp H
 obtain ⟨⟨t770, t771, t772⟩, A50, H⟩ := H
 replace H : (some (t762, t763, t767, Go.bits .and .i64 t767 t770)) = some (r1, r2, r3, r4) := H
 have A5 := zA A50
 clear A50
 simp only [Option.some.injEq, Prod.mk.injEq] at H
 obtain ⟨rfl, rfl, rfl, rfl⟩ := H
 go_enter Try.func72, Try.ntmps72
 try go_wp2_with (first | ((with_reducible refine gate_dst (N := 2) rfl ?_); refine box_event ?hg (N := 2) ?hd (cs := #[.int .i64 0, .int .i64 0]) (t := 23) ?hr ?_; (case hd => rfl); (case hg => rfl); (case hr => exact zH); intro gb757 hg w6 hbox hb; have BK757 := zA (hbox); have GW757 := zg HB hg; have GE757 := zg HB hg; replace HB := zA (below_step (zB HB) hb); clear hb hbox hg) | ((with_reducible refine gate_callee (f := 120) rfl ?_); refine goesL_ (some 9) rfl rfl Try.func120 (by kernel_rfl) rfl #[.slice A0 l0.length c0] rfl zM ?_; (with_reducible refine (spec_l1New.calls k _ _ l0 t758 t759 t760 w _ ?side1 ?side2 ?side3 A2.out).mono ?_); (case side1 => repeat (first | (with_reducible first | exact HB.out | apply below_alloc | apply pw_below_drewN | apply below_drew1 | refine below_set ?_ GE757.out) | exact HB.out)); (case side2 => exact HR0.out); (case side3 => exact HC0.out); rintro e w7 ⟨g761, rfl, hi, hb, hb2⟩; refine ⟨_, rfl, ?_⟩; have HI761 := zA (hi); have NB761_757 := zA (IsS109.ne_blk hi (blk_below (g := gb757) (o := .cells #[.int .i64 0, .int .i64 0] 23 (0, 0)) (zD BK757) hb2) (by decide)); have NB757_761 := zA (Ne.symm (IsS109.ne_blk hi (blk_below (g := gb757) (o := .cells #[.int .i64 0, .int .i64 0] 23 (0, 0)) (zD BK757) hb2) (by decide))); replace BK757 := zb BK757 hb2; replace HB := zA (hb); (try clear hb); (try clear hb2); (try clear hk); (try clear hi)) | ((with_reducible refine gate_callee (f := 121) rfl ?_); refine goesL_ (some 11) rfl rfl Try.func121 (by kernel_rfl) rfl #[.pointer (some ⟨g761, 0, none⟩)] rfl zM ?_; (with_reducible refine (spec_l2Any.calls k g761 t758 t759 t760 t762 t763 t764 t765 w _ ?side1 ?side2 A3.out).mono ?_); (case side1 => repeat (first | (with_reducible first | exact HI761.out | apply IsS109.alloc | apply IsS109.drewN | apply IsS109.drew | apply IsS109.set_1 | apply IsS109.set_2 | refine IsS109.far ?_ NB761_757.out _) | exact HI761.out)); (case side2 => repeat (first | (with_reducible first | exact HB.out | apply below_alloc | apply pw_below_drewN | apply below_drew1 | refine below_set ?_ (IsS109.ge HI761.out) | refine below_set ?_ GE757.out) | exact HB.out)); rintro e w8 ⟨rfl, hi, hb, hk⟩; refine ⟨_, rfl, ?_⟩; replace BK757 := zA (KeepBut.blk hk (g' := gb757) (o := .cells #[.int .i64 0, .int .i64 0] 23 (0, 0)) (zD BK757) NB757_761.out (by simp)); replace HB := zA (hb); replace HI761 := zA (hi); (try clear hb); (try clear hb2); (try clear hk); (try clear hi)) | ((with_reducible refine gate_dst (N := 6) rfl ?_); refine box_event ?hg (N := 6) ?hd (cs := #[.int .i64 0, .int .i64 0]) (t := 23) ?hr ?_; (case hd => rfl); (case hg => rfl); (case hr => exact zH); intro gb766 hg w9 hbox hb; have BK766 := zA (hbox); have GW766 := zA ((by rw [hg]; exact (below_size (by repeat (first | (with_reducible first | exact HB.out | apply below_alloc | apply pw_below_drewN | apply below_drew1 | refine below_set ?_ (IsS109.ge HI761.out) | refine below_set ?_ GE757.out) | exact HB.out))) : w.heap.size ≤ gb766)); have GE766 := zA ((by rw [hg]; exact (below_size (by repeat (first | (with_reducible first | exact HB.out | apply below_alloc | apply pw_below_drewN | apply below_drew1 | refine below_set ?_ (IsS109.ge HI761.out) | refine below_set ?_ GE757.out) | exact HB.out))) : w.heap.size ≤ gb766)); have NB757_766 := zn BK757 hg; have NB766_757 := zo BK757 hg; have NB761_766 := zA ((by rw [hg]; exact Nat.ne_of_lt (IsS109.lt (show IsS109 w _ g761 t758 t764 t765 from by repeat (first | (with_reducible first | exact HI761.out | apply IsS109.alloc | apply IsS109.drewN | apply IsS109.drew | apply IsS109.set_1 | apply IsS109.set_2 | refine IsS109.far ?_ NB761_757.out _) | exact HI761.out))) : g761 ≠ gb766)); have NB766_761 := zA ((by rw [hg]; exact Nat.ne_of_gt (IsS109.lt (show IsS109 w _ g761 t758 t764 t765 from by repeat (first | (with_reducible first | exact HI761.out | apply IsS109.alloc | apply IsS109.drewN | apply IsS109.drew | apply IsS109.set_1 | apply IsS109.set_2 | refine IsS109.far ?_ NB761_757.out _) | exact HI761.out))) : gb766 ≠ g761)); replace BK757 := zb BK757 hb; replace HB := zA (below_step (by repeat (first | (with_reducible first | exact HB.out | apply below_alloc | apply pw_below_drewN | apply below_drew1 | refine below_set ?_ (IsS109.ge HI761.out) | refine below_set ?_ GE757.out) | exact HB.out)) hb); replace HI761 := zA (IsS109.below (by repeat (first | (with_reducible first | exact HI761.out | apply IsS109.alloc | apply IsS109.drewN | apply IsS109.drew | apply IsS109.set_1 | apply IsS109.set_2 | refine IsS109.far ?_ NB761_757.out _) | exact HI761.out)) hb); clear hb hbox hg; have hnb10 := NB766_757.out; have hnc10 := NB757_766.out; have hnb11 := NB766_761.out; have hnc11 := NB761_766.out; have hcz12_0 := zc0 BK766; have hcz12_1 := zc1 BK766; have hfz12_0 := blk_frozen BK766.out 0; have hfz12_1 := blk_frozen BK766.out 1) | ((with_reducible refine gate_callee (f := 122) rfl ?_); refine goesL_ (some 13) rfl rfl Try.func122 (by kernel_rfl) rfl #[.pointer (some ⟨g761, 0, none⟩), .int .i64 17] rfl zM ?_; (with_reducible refine (spec_l1Below.calls g761 t758 t764 t765 17 t767 t768 t769 w _ ?side1 ?side2 A4.out).mono ?_); (case side1 => repeat (first | (with_reducible first | exact HI761.out | apply IsS109.alloc | apply IsS109.drewN | apply IsS109.drew | apply IsS109.set_1 | apply IsS109.set_2 | refine IsS109.far ?_ NB761_757.out _ | refine IsS109.far ?_ NB761_766.out _) | exact HI761.out)); (case side2 => repeat (first | (with_reducible first | exact HB.out | apply below_alloc | apply pw_below_drewN | apply below_drew1 | refine below_set ?_ (IsS109.ge HI761.out) | refine below_set ?_ GE757.out | refine below_set ?_ GE766.out) | exact HB.out)); rintro e w13 ⟨rfl, hi, hb, hk⟩; refine ⟨_, rfl, ?_⟩; replace BK757 := zA (KeepBut.blk hk (g' := gb757) (o := .cells #[.int .i64 0, .int .i64 0] 23 (0, 0)) (zF BK757 NB757_766) NB757_761.out (by simp)); replace BK766 := zA (KeepBut.blk hk (g' := gb766) (o := .cells #[.int .i64 t762, .int .i64 t763] 23 (0, 0)) (zP BK766) NB766_761.out (by simp)); replace HB := zA (hb); replace HI761 := zA (hi); (try clear hb); (try clear hb2); (try clear hk); (try clear hi)))
 have n0_ := zA (blk_drew BK757.out)
 have n1_ := zA (blk_drew BK766.out)
 have n2_ := zA (IsS109.drew HI761.out)
 have n3_ := zA (below_drew1 HB.out)
 clear BK757
 clear BK766
 clear HI761
 clear HB
 have BK757 := n0_
 have BK766 := n1_
 have HI761 := n2_
 have HB := n3_
 clear n0_ n1_ n2_ n3_
 refine start_ (n := 9) (S := fun w' => w'.cell? ⟨gb766, 0, none⟩ = some (.int .i64 t762) ∧ w'.cell? ⟨gb766, 1, none⟩ = some (.int .i64 t763)) (ds := []) #[false, false, false, false, false, false, false, false, false] (by kernel_rfl) rfl rfl ⟨(blk_cell BK766.out 0).trans rfl, (blk_cell BK766.out 1).trans rfl⟩ (fun hHeld => ?_); refine with_tabW spec_DrawCubeValue.tab4 spec_DrawCubeValue.bits4 (fun HT_ HW_ => ?_)
 generalize w13.drew = w14 at BK757 BK766 HI761 HB hHeld ⊢
 refine pure_ (i := 1) (N := some 15) (v := ?_) (a' := ?_) #[false, true, false, false, false, false, false, false, false] rfl rfl (any_of HT_.out (by kernel_rfl)) (fun _ _ _ h => h) (Or.inl ⟨by rfl, ?_⟩) ?_ ?_
 rotate_left
 ·intro w'
  go_simp
  with_reducible rfl
 rotate_left
 ·simp only [Act.put, List.setIfInBounds_toArray, List.set_cons_zero, List.set_cons_succ, i64_w, i32_w]
  rfl
 refine pure_ (i := 2) (N := some 16) (v := ?_) (a' := ?_) #[false, true, true, false, false, false, false, false, false] rfl rfl (any_of HT_.out (by kernel_rfl)) (fun _ _ _ h => h) (Or.inl ⟨by rfl, ?_⟩) ?_ ?_
 rotate_left
 ·intro w'
  go_simp
  with_reducible rfl
 rotate_left
 ·simp only [Act.put, List.setIfInBounds_toArray, List.set_cons_zero, List.set_cons_succ, i64_w, i32_w]
  rfl
 refine pure_ (i := 3) (N := some 17) (v := ?_) (a' := ?_) #[false, true, true, true, false, false, false, false, false] rfl rfl (any_of HT_.out (by kernel_rfl)) (fun _ _ _ h => h) (Or.inl ⟨by rfl, ?_⟩) ?_ ?_
 rotate_left
 ·intro w'
  go_simp
  with_reducible rfl
 rotate_left
 ·simp only [Act.put, List.setIfInBounds_toArray, List.set_cons_zero, List.set_cons_succ, i64_w, i32_w]
  rfl
 refine take_ (i := 0) (N := some 14) (v := ?_) (a' := ?_) #[true, true, true, true, false, false, false, false, false] rfl rfl (take_ofW HT_.out HW_.out (by kernel_rfl)) (fun _ _ _ h => h) (Or.inl ⟨by rfl, ?_⟩) hHeld ?_ ?_
 rotate_left
 ·rintro w' ⟨s0, s1⟩
  go_simp
  with_reducible rfl
 rotate_left
 ·simp only [Act.put, List.setIfInBounds_toArray, List.set_cons_zero, List.set_cons_succ, i64_w, i32_w]
  rfl
 refine one_ (i := 4) (N := some 18) #[true, true, true, true, true, false, false, false, false] rfl rfl (one_of HT_.out (by kernel_rfl)) (by decide) (fun K hK => ?_)
 refine goes_ Try.func122 (by kernel_rfl) rfl #[.pointer (some ⟨g761, 0, none⟩), .int .i64 17] (by rfl) rfl rfl zM ?_
 with_reducible refine (spec_l1Below.calls g761 t758 t768 t769 17 t770 t771 t772 w _ ?side1 ?side2 A5.out).mono ?_
 (case side1 => repeat (first | (with_reducible first | exact HI761.out | apply IsS109.alloc | apply IsS109.drewN | apply IsS109.drew | apply IsS109.set_1 | apply IsS109.set_2 | refine IsS109.far ?_ NB761_757.out _ | refine IsS109.far ?_ NB761_766.out _) | exact HI761.out))
 (case side2 => repeat (first | (with_reducible first | exact HB.out | apply below_alloc | apply pw_below_drewN | apply below_drew1 | refine below_set ?_ (IsS109.ge HI761.out) | refine below_set ?_ GE757.out | refine below_set ?_ GE766.out) | exact HB.out))
 rintro e w15 ⟨rfl, hi, hb, hk⟩
 refine ⟨_, rfl, ?_⟩
 have n0_ := zA (KeepBut.blk hk (g' := gb757) (o := .cells #[.int .i64 0, .int .i64 0] 23 (0, 0)) (zD BK757) NB757_761.out (by simp))
 have n1_ := zA (KeepBut.blk hk (g' := gb766) (o := .cells #[.int .i64 t762, .int .i64 t763] 23 (0, 0)) (zD BK766) NB766_761.out (by simp))
 have n2_ := zA (hb)
 have n3_ := zA (hi)
 clear BK757
 clear BK766
 clear HB
 clear HI761
 have BK757 := n0_
 have BK766 := n1_
 have HB := n2_
 have HI761 := n3_
 clear n0_ n1_ n2_ n3_
 (try clear hb)
 (try clear hb2)
 (try clear hk)
 (try clear hi)
 refine hK.out _ _ ⟨(blk_cell BK766.out 0).trans rfl, (blk_cell BK766.out 1).trans rfl⟩ (fun hHeld => ?_)
 clear hK K
 refine norm_ (a' := ?_) ?_ ?_
 rotate_left
 ·show Act.put _ (some 18) _ = _
  simp only [Act.put, List.setIfInBounds_toArray, List.set_cons_zero, List.set_cons_succ, i64_w, i32_w]
  rfl
 refine pure_ (i := 5) (N := some 19) (v := ?_) (a' := ?_) #[true, true, true, true, true, true, false, false, false] rfl rfl (any_of HT_.out (by kernel_rfl)) (fun _ _ _ h => h) (Or.inl ⟨by rfl, ?_⟩) ?_ ?_
 rotate_left
 ·intro w'
  go_simp
  with_reducible rfl
 rotate_left
 ·simp only [Act.put, List.setIfInBounds_toArray, List.set_cons_zero, List.set_cons_succ, i64_w, i32_w]
  rfl
 refine one_ (i := 6) (N := none) #[true, true, true, true, true, true, true, false, false] rfl rfl (one_of HT_.out (by kernel_rfl)) (by decide) (fun K hK => ?_)
 have hs16 : w15.cell? ⟨gb757, 0, none⟩ = some (.int .i64 0) := (blk_cell BK757.out 0).trans rfl
 have hfs16 := blk_frozen BK757.out 0
 have hns16_1 := NB766_757.out
 have hms16_1 := NB757_766.out
 have hs17 : w15.cell? ⟨gb757, 1, none⟩ = some (.int .i64 0) := (blk_cell BK757.out 1).trans rfl
 have hfs17 := blk_frozen BK757.out 1
 have hns17_1 := NB766_757.out
 have hms17_1 := NB757_766.out
 refine skip_ (w1 := ?_) (by rfl) rfl ?_ ?_
 rotate_left
 ·go_simp
  rfl
 refine hK.out _ _ ⟨((cell_far (p := ⟨gb757, _, none⟩) NB766_757.out _).trans (((cell_far (p := ⟨gb757, _, none⟩) NB766_757.out _).trans (hHeld.1)))), ((cell_far (p := ⟨gb757, _, none⟩) NB766_757.out _).trans (((cell_far (p := ⟨gb757, _, none⟩) NB766_757.out _).trans (hHeld.2))))⟩ (fun hHeld => ?_)
 clear hK K
 refine pure_ (i := 7) (N := some 3) (v := ?_) (a' := ?_) #[true, true, true, true, true, true, true, true, false] rfl rfl (any_of HT_.out (by kernel_rfl)) (fun _ _ _ h => h) (Or.inl ⟨by rfl, ?_⟩) ?_ ?_
 rotate_left
 ·intro w'
  go_simp
  with_reducible rfl
 rotate_left
 ·simp only [Act.put, List.setIfInBounds_toArray, List.set_cons_zero, List.set_cons_succ, i64_w, i32_w]
  rfl
 refine pure_ (i := 8) (N := some 4) (v := ?_) (a' := ?_) #[true, true, true, true, true, true, true, true, true] rfl rfl (any_of HT_.out (by kernel_rfl)) (fun _ _ _ h => h) (Or.inl ⟨by rfl, ?_⟩) ?_ ?_
 rotate_left
 ·intro w'
  go_simp
  with_reducible rfl
 rotate_left
 ·simp only [Act.put, List.setIfInBounds_toArray, List.set_cons_zero, List.set_cons_succ, i64_w, i32_w]
  rfl
 refine done_ (done_of HT_.out (by kernel_rfl)) ?_
 try go_wp2
 refine bodyPost_ret (results_ctt rfl _ _ gb757 23 #[.int .i64 t762, .int .i64 t763] (0, 0) _ rfl (zP BK757) Try.underlying23 rfl (by kernel_rfl)) rfl ?_
 exact ⟨by first | rfl | (simp [errW_none, errW_some] <;> rfl) | (simp [*, errW_none, errW_some] <;> rfl), by repeat (first | (with_reducible first | exact HB.out | apply below_alloc | apply pw_below_drewN | apply below_drew1 | refine below_set ?_ (IsS109.ge HI761.out) | refine below_set ?_ GE757.out | refine below_set ?_ GE766.out) | exact HB.out)⟩

end Go.Proofs.Ytijpcemcijaeeaa.P
