/- The functions that this seat's laws reach, each as a plain Lean function, and the walk of each; written by a program over the kit's print. No conditions but those that stand in the theorems. -/
import Derived.Test.YtijpcemcijaeeaaP0
import Derived.Test.YtijpcemcijaeeaaPa0
import Derived.Test.YtijpcemcijaeeaaPb0
import Derived.Test.YtijpcemcijaeeaaPm
import Derived.Test.YtijpcemcijaeeaaK6
namespace Go.Proofs.Ytijpcemcijaeeaa.P
open Go.RowKit Go.Proofs.YtijpcemcijaeeaaW.PrintWords Go.Proofs.YtijpcemcijaeeaaW.PrintLast Go.Proofs.YtijpcemcijaeeaaW.PrintMore
attribute [local go_sem] max2_int min2_int max_two min_two max_three min_three max_four min_four   -- for this text's walks alone
set_option linter.unusedVariables false
set_option linter.unusedSimpArgs false

attribute [local go_sem] fld23_0 fld23_1
/-! ### spec_VariablesOf: function 41 -/
mutual
def spec_VariablesOf.l0 : Nat → List Int → Int → Int → Int → Option (List Int)
 | 0, _, _, _, _ => none
 | k + 1, x3, x4, x335000, x335001 => (spec_IsTable.f x335000 x335001).bind fun t338 => (if t338 = true then (spec_VariablesOf.j1 k x3 x4 (decide (x4 < x335000)) x335000 x335001) else (spec_VariablesOf.j1 k x3 x4 false x335000 x335001))
def spec_VariablesOf.j1 : Nat → List Int → Int → Bool → Int → Int → Option (List Int)
 | 0, _, _, _, _, _ => none
 | k + 1, x3, x4, x13, x335000, x335001 => if x13 = true then ((spec_l3Depends.f k x335000 x335001 x4).bind fun t339 => (if t339 = true then (if x3.length < 17592186044416 then (spec_VariablesOf.l0 k (x3 ++ [x4]) (wrap64 (x4 + 1)) x335000 x335001) else (none)) else (spec_VariablesOf.l0 k x3 (wrap64 (x4 + 1)) x335000 x335001))) else (some x3)
end
def spec_VariablesOf.f (k : Nat) (a0_0 : Int) (a0_1 : Int) : Option (List Int) := spec_VariablesOf.l0 k (([] : List Int)) 0 a0_0 a0_1
theorem spec_VariablesOf.mono_l : ∀ k, (∀ y0 y1 y2 y3, LeO (spec_VariablesOf.l0 k y0 y1 y2 y3) (spec_VariablesOf.l0 (k + 1) y0 y1 y2 y3)) ∧ (∀ y0 y1 y2 y3 y4, LeO (spec_VariablesOf.j1 k y0 y1 y2 y3 y4) (spec_VariablesOf.j1 (k + 1) y0 y1 y2 y3 y4))
 | 0 => ⟨fun _ _ _ _ r h => by simp [spec_VariablesOf.l0] at h, fun _ _ _ _ _ r h => by simp [spec_VariablesOf.j1] at h⟩
 | k + 1 => by
  obtain ⟨ih0, ih1⟩ := spec_VariablesOf.mono_l k
  refine ⟨?_, ?_⟩
  ·intro y0 y1 y2 y3
   unfold spec_VariablesOf.l0
   repeat' first
   | (with_reducible exact ih0 _ _ _ _)
   | (with_reducible exact ih1 _ _ _ _ _)
   | (with_reducible exact spec_l3Depends.mono _ _ _ _)
   | (with_reducible exact LeO.refl _)
   | (with_reducible exact LeO.none _)
   | (with_reducible refine LeO.ite ?_ ?_)
   | (with_reducible refine LeO.bind ?_ (fun _ => ?_))
   | exact ih0 _ _ _ _
   | exact ih1 _ _ _ _ _
   | exact spec_l3Depends.mono _ _ _ _
   | exact LeO.none _
   | refine LeO.ite ?_ ?_
   | refine LeO.bind ?_ (fun _ => ?_)
  ·intro y0 y1 y2 y3 y4
   unfold spec_VariablesOf.j1
   repeat' first
   | (with_reducible exact ih0 _ _ _ _)
   | (with_reducible exact ih1 _ _ _ _ _)
   | (with_reducible exact spec_l3Depends.mono _ _ _ _)
   | (with_reducible exact LeO.refl _)
   | (with_reducible exact LeO.none _)
   | (with_reducible refine LeO.ite ?_ ?_)
   | (with_reducible refine LeO.bind ?_ (fun _ => ?_))
   | exact ih0 _ _ _ _
   | exact ih1 _ _ _ _ _
   | exact spec_l3Depends.mono _ _ _ _
   | exact LeO.none _
   | refine LeO.ite ?_ ?_
   | refine LeO.bind ?_ (fun _ => ?_)
theorem spec_VariablesOf.mono : ∀ a0 a1 k, LeO (spec_VariablesOf.f k a0 a1) (spec_VariablesOf.f (k + 1) a0 a1) := by
 intro a0 a1 k
 obtain ⟨ih0, ih1⟩ := spec_VariablesOf.mono_l k
 unfold spec_VariablesOf.f
 repeat' first
   | (with_reducible exact ih0 _ _ _ _)
   | (with_reducible exact ih1 _ _ _ _ _)
   | (with_reducible exact spec_l3Depends.mono _ _ _ _)
   | (with_reducible exact LeO.refl _)
   | (with_reducible exact LeO.none _)
   | (with_reducible refine LeO.ite ?_ ?_)
   | (with_reducible refine LeO.bind ?_ (fun _ => ?_))
   | exact ih0 _ _ _ _
   | exact ih1 _ _ _ _ _
   | exact spec_l3Depends.mono _ _ _ _
   | exact LeO.none _
   | refine LeO.ite ?_ ?_
   | refine LeO.bind ?_ (fun _ => ?_)
set_option maxHeartbeats 8000000 in
set_option maxRecDepth 100000 in
theorem spec_VariablesOf.calls (k : Nat) (a0_0 : Int) (a0_1 : Int) (r : List Int) (w : World) (h : spec_VariablesOf.f k a0_0 a0_1 = some r) :
  Calls Try.prog 41 #[.agg #[.int .i64 a0_0, .int .i64 a0_1]] w fun e w' => ∃ v0_ : Value, e = .returned (v0_) ∧ Kd.R (Kd.int .i64) 3 w' w.heap.size (fun _ => True) v0_ r ∧ Below w.heap.size w w' := by
 have hu23 := Try.underlying23
 have HB := zA (Below.refl w.heap.size w)
 have H : (spec_VariablesOf.l0 k (([] : List Int)) 0 a0_0 a0_1) = some r := h
 clear h
 obtain ⟨y335, hy335⟩ : ∃ y_ : List Int, y_ = (([] : List Int)) := ⟨_, rfl⟩
 replace H : (spec_VariablesOf.l0 k y335 0 a0_0 a0_1) = some r := by first | (rw [hy335]; with_reducible exact H) | (have H2_ := (Option.bind_some _ _).symm.trans H; rw [hy335]; with_reducible exact H2_) | (have H2_ := (Option.bind_some _ _).symm.trans H; with_reducible exact H2_) | with_reducible exact H | (rw [hy335]; exact H) | exact H
 have Ny335 := zA hy335
 clear hy335
 have H' := zA H
 clear H
 go_enter Try.func41, Try.ntmps41
 go_wp2_with (first | ((with_reducible refine gate_dst (N := 1) rfl ?_); refine box_event ?hg (N := 1) ?hd (cs := #[.int .i64 a0_0, .int .i64 a0_1]) (t := 23) ?hr ?_; (case hd => rfl); (case hg => rfl); (case hr => exact zH); intro gb334 hg w2 hbox hb; have BK334 := zA (hbox); have GW334 := zg HB hg; have GE334 := zg HB hg; replace HB := zA (below_step (zB HB) hb); clear hb hbox hg) | ((with_reducible refine gate_dst (N := 5) rfl ?_); refine Kd.R_lit (Kd.int .i64) _ 3 ?hg (N := 5) ?hd (xs := ([] : List Int)) (inner := []) (ok := fun _ => True) (okp := fun _ => True) ?hr ?hp (fun _ hk => hk) trivial (Below.refl _ _) (Nat.le_refl _) (by simp) ?_; (case hd => rfl); (case hg => rfl); (case hr => exact zH); (case hp => exact (Reps.none _ _)); intro v336 w3 ho4 hb hg_ hnew_; clear hg_ hnew_; (first | rw [← Ny335.out] at ho4 | (simp only [Int.reduceToNat] at ho4; rw [← Ny335.out] at ho4)); have HO337 := zA (Kd.R_lower ho4 (below_size (zB1 HB GE334))); replace BK334 := zb BK334 hb; replace HB := zA (below_step (zB1 HB GE334) hb); clear hb ho4))
 go_loopg [3, 4] k (fun kq v3 v4 w' => ∃ (x3_1 : List Int) (x4_1 : Int), v4 = .int .i64 x4_1 ∧ Aside0 (spec_VariablesOf.l0 kq x3_1 x4_1 a0_0 a0_1 = some r) ∧ Aside0 (kq ≤ k) ∧ Aside0 (Kd.R (Kd.int .i64) 3 w' w.heap.size (fun _ => True) v3 x3_1) ∧ Aside0 (w'.heap[gb334]? = some (.cells #[.int .i64 a0_0, .int .i64 a0_1] 23 (0, 0))) ∧ Aside0 (Below w.heap.size w w'))
 case atStart => exact ⟨(y335), (0), zS, H', ⟨Nat.le_refl _⟩, ⟨zR HO337⟩, ⟨zD BK334⟩, ⟨zB1 HB GE334⟩⟩
 case round =>
  clear H'
  try clear p2
  try clear c4
  obtain ⟨x3_1, x4_1, rfl, HA, HK1, HO_3, BK334, HB⟩ := hrel
  cases gk with
  | zero => exact absurd HA.out (by simp [spec_VariablesOf.l0])
  | succ k1 =>
   have H := HA.out
   clear HA
   simp only [spec_VariablesOf.l0] at H
   have HC5 := zA H
   clear H
   go_upto_region 3 with (fail)
   go_cut [13] (fun v13 wc => ∃ (kq : Nat) (x13_4 : Bool), v13 = .bool x13_4 ∧ Aside0 (spec_VariablesOf.j1 kq x3_1 x4_1 x13_4 a0_0 a0_1 = some r) ∧ Aside0 (kq ≤ k1) ∧ Aside0 (Kd.R (Kd.int .i64) 3 wc w.heap.size (fun _ => True) u3 x3_1) ∧ Aside0 (wc.heap[gb334]? = some (.cells #[.int .i64 a0_0, .int .i64 a0_1] 23 (0, 0))) ∧ Aside0 (Below w.heap.size w wc))
   case first =>
    have H := HC5.out
    clear HC5
    replace H := Option.bind_eq_some_iff.mp H
    obtain ⟨t338, A60, H⟩ := H
    replace H : (if t338 = true then (spec_VariablesOf.j1 k1 x3_1 x4_1 (decide (x4_1 < a0_0)) a0_0 a0_1) else (spec_VariablesOf.j1 k1 x3_1 x4_1 false a0_0 a0_1)) = some r := H
    have A6 := zA A60
    clear A60
    by_cases c7 : t338 = true
    ·subst c7
     have H1 : (spec_VariablesOf.j1 k1 x3_1 x4_1 (decide (x4_1 < a0_0)) a0_0 a0_1) = some r := by rw [if_pos rfl] at H; exact H
     clear H
     have H := H1
     clear H1
     have H' := zA H
     clear H
     have hcz8_0 := zc0 BK334
     have hcz8_1 := zc1 BK334
     have hfz8_0 := blk_frozen BK334.out 0
     have hfz8_1 := blk_frozen BK334.out 1
     go_wp2_with (first | ((with_reducible refine gate_callee (f := 78) rfl ?_); refine goesL_ (some 7) rfl rfl Try.func78 (by kernel_rfl) rfl #[.agg #[.int .i64 a0_0, .int .i64 a0_1]] rfl zM ?_; (with_reducible refine (spec_IsTable.calls a0_0 a0_1 true _ A6.out).mono ?_); rintro e w9 ⟨rfl, hb⟩; refine ⟨_, rfl, ?_⟩; replace HO_3 := zA (Kd.R_below (zR HO_3) hb); replace BK334 := zb BK334 hb; replace HB := zA (below_step (zB1 HB GE334) hb); (try clear hb); (try clear hb2); (try clear hk); (try clear hi); have hcz10_0 := zc0 BK334; have hcz10_1 := zc1 BK334; have hfz10_0 := blk_frozen BK334.out 0; have hfz10_1 := blk_frozen BK334.out 1))
     go_meet
     case rel => exact ⟨_, (decide (x4_1 < a0_0)), zS, H', ⟨by have := HK1.out; first | omega | exact Nat.le_refl _⟩, ⟨zR HO_3⟩, ⟨zD BK334⟩, ⟨zB1 HB GE334⟩⟩
    ·replace c7 := Bool.eq_false_iff.mpr c7
     subst c7
     have H1 : (spec_VariablesOf.j1 k1 x3_1 x4_1 false a0_0 a0_1) = some r := by rw [if_neg (show ¬ (false = true) by decide)] at H; exact H
     clear H
     have H := H1
     clear H1
     have H' := zA H
     clear H
     have hcz11_0 := zc0 BK334
     have hcz11_1 := zc1 BK334
     have hfz11_0 := blk_frozen BK334.out 0
     have hfz11_1 := blk_frozen BK334.out 1
     go_wp2_with (first | ((with_reducible refine gate_callee (f := 78) rfl ?_); refine goesL_ (some 7) rfl rfl Try.func78 (by kernel_rfl) rfl #[.agg #[.int .i64 a0_0, .int .i64 a0_1]] rfl zM ?_; (with_reducible refine (spec_IsTable.calls a0_0 a0_1 false _ A6.out).mono ?_); rintro e w12 ⟨rfl, hb⟩; refine ⟨_, rfl, ?_⟩; replace HO_3 := zA (Kd.R_below (zR HO_3) hb); replace BK334 := zb BK334 hb; replace HB := zA (below_step (zB1 HB GE334) hb); (try clear hb); (try clear hb2); (try clear hk); (try clear hi)))
     go_meet
     case rel => exact ⟨_, (false), zS, H', ⟨by have := HK1.out; first | omega | exact Nat.le_refl _⟩, ⟨zR HO_3⟩, ⟨zD BK334⟩, ⟨zB1 HB GE334⟩⟩
   case rest =>
    clear HC5
    try clear p2
    try clear c4
    try clear c7
    try clear hcz10_0
    try clear hcz10_1
    try clear hcz11_0
    try clear hcz11_1
    try clear hcz8_0
    try clear hcz8_1
    try clear hfz10_0
    try clear hfz10_1
    try clear hfz11_0
    try clear hfz11_1
    try clear hfz8_0
    try clear hfz8_1
    try clear p2
    obtain ⟨kq, x13_4, rfl, HA, HJ4, HO_3, BK334, HB⟩ := hcut
    cases kq with
    | zero => exact absurd HA.out (by simp [spec_VariablesOf.j1])
    | succ kj4 =>
     have H := HA.out
     clear HA
     simp only [spec_VariablesOf.j1] at H
     by_cases c13 : x13_4 = true
     ·subst c13
      have H1 : ((spec_l3Depends.f kj4 a0_0 a0_1 x4_1).bind fun t339 => (if t339 = true then (if x3_1.length < 17592186044416 then (spec_VariablesOf.l0 kj4 (x3_1 ++ [x4_1]) (wrap64 (x4_1 + 1)) a0_0 a0_1) else (none)) else (spec_VariablesOf.l0 kj4 x3_1 (wrap64 (x4_1 + 1)) a0_0 a0_1))) = some r := by rw [if_pos rfl] at H; exact H
      clear H
      have H := H1
      clear H1
      replace H := Option.bind_eq_some_iff.mp H
      obtain ⟨t339, A140, H⟩ := H
      replace H : (if t339 = true then (if x3_1.length < 17592186044416 then (spec_VariablesOf.l0 kj4 (x3_1 ++ [x4_1]) (wrap64 (x4_1 + 1)) a0_0 a0_1) else (none)) else (spec_VariablesOf.l0 kj4 x3_1 (wrap64 (x4_1 + 1)) a0_0 a0_1)) = some r := H
      have A14 := zA A140
      clear A140
      by_cases c15 : t339 = true
      ·subst c15
       have H1 : (if x3_1.length < 17592186044416 then (spec_VariablesOf.l0 kj4 (x3_1 ++ [x4_1]) (wrap64 (x4_1 + 1)) a0_0 a0_1) else (none)) = some r := by rw [if_pos rfl] at H; exact H
       clear H
       have H := H1
       clear H1
       by_cases c16 : x3_1.length < 17592186044416
       ·rw [if_pos c16] at H
        have LMc16 := zA c16
        clear c16
        obtain ⟨y340, hy340⟩ : ∃ y_ : List Int, y_ = (x3_1 ++ [x4_1]) := ⟨_, rfl⟩
        replace H : (spec_VariablesOf.l0 kj4 y340 (wrap64 (x4_1 + 1)) a0_0 a0_1) = some r := by first | (rw [hy340]; with_reducible exact H) | (have H2_ := (Option.bind_some _ _).symm.trans H; rw [hy340]; with_reducible exact H2_) | (have H2_ := (Option.bind_some _ _).symm.trans H; with_reducible exact H2_) | with_reducible exact H | (rw [hy340]; exact H) | exact H
        have Ny340 := zA hy340
        clear hy340
        have H' := zA H
        clear H
        have hcz17_0 := zc0 BK334
        have hcz17_1 := zc1 BK334
        have hfz17_0 := blk_frozen BK334.out 0
        have hfz17_1 := blk_frozen BK334.out 1
        go_wp2_with (first | ((with_reducible refine gate_callee (f := 85) rfl ?_); refine goesL_ (some 18) rfl rfl Try.func85 (by kernel_rfl) rfl #[.agg #[.int .i64 a0_0, .int .i64 a0_1], .int .i64 x4_1] rfl zM ?_; (with_reducible refine (spec_l3Depends.calls kj4 a0_0 a0_1 x4_1 true _ A14.out).mono ?_); rintro e w18 ⟨rfl, hb⟩; refine ⟨_, rfl, ?_⟩; replace HO_3 := zA (Kd.R_below (zR HO_3) hb); replace BK334 := zb BK334 hb; replace HB := zA (below_step (zB1 HB GE334) hb); (try clear hb); (try clear hb2); (try clear hk); (try clear hi)) | ((with_reducible refine gate_builtin (b := .append) (xs := #[.tmp 19, .tmp 21]) rfl ?_); at_builtin; refine Kd.R_append (Kd.int .i64) (w0 := w) w.heap.size rfl (.tmp 19) (.tmp 21) 43 3 (.int .i64 0) 8 rfl Try.underlying43 info3 rfl (by decide) (by omega) u3 x3_1 x4_1 [.int .i64 x4_1] (fun _ => True) (fun _ => False) rfl rfl ?aP (fun _ hk => hk.elim) ?aF ?aO ?aB ?aS ?aL ?_; (case aP => exact rfl); (case aB => exact (zB1 HB GE334)); (case aF => exact (fun _ _ => trivial)); (case aO => exact (zR HO_3)); (case aS => exact (below_size (zB1 HB GE334))); (case aL => have := LMc16.out; omega); intro v341 w19 ho hb hg hat; rw [← Ny340.out] at ho; have n0_ := zA (blk_grown (g := gb334) (o := .cells #[.int .i64 a0_0, .int .i64 a0_1] 23 (0, 0)) (zD BK334) hg (Kd.R_ne HO_3.out BK334.out (by decide))); have n1_ := zA (hb); have n2_ := zA (ho); clear BK334; clear HB; clear HO_3; have BK334 := n0_; have HB := n1_; have HO342 := n2_; clear n0_ n1_ n2_; clear ho hb hg hat))
        go_roundg kj4
        case measure => have := HK1.out; have := HJ4.out; omega
        case rel => exact ⟨(y340), (wrap64 (x4_1 + 1)), zS, H', ⟨by have := HK1.out; have := HJ4.out; omega⟩, ⟨zR HO342⟩, ⟨zD BK334⟩, ⟨zB1 HB GE334⟩⟩
       ·rw [if_neg c16] at H
        exact absurd H (by simp)
      ·replace c15 := Bool.eq_false_iff.mpr c15
       subst c15
       have H1 : (spec_VariablesOf.l0 kj4 x3_1 (wrap64 (x4_1 + 1)) a0_0 a0_1) = some r := by rw [if_neg (show ¬ (false = true) by decide)] at H; exact H
       clear H
       have H := H1
       clear H1
       have H' := zA H
       clear H
       have hcz20_0 := zc0 BK334
       have hcz20_1 := zc1 BK334
       have hfz20_0 := blk_frozen BK334.out 0
       have hfz20_1 := blk_frozen BK334.out 1
       go_wp2_with (first | ((with_reducible refine gate_callee (f := 85) rfl ?_); refine goesL_ (some 18) rfl rfl Try.func85 (by kernel_rfl) rfl #[.agg #[.int .i64 a0_0, .int .i64 a0_1], .int .i64 x4_1] rfl zM ?_; (with_reducible refine (spec_l3Depends.calls kj4 a0_0 a0_1 x4_1 false _ A14.out).mono ?_); rintro e w21 ⟨rfl, hb⟩; refine ⟨_, rfl, ?_⟩; replace HO_3 := zA (Kd.R_below (zR HO_3) hb); replace BK334 := zb BK334 hb; replace HB := zA (below_step (zB1 HB GE334) hb); (try clear hb); (try clear hb2); (try clear hk); (try clear hi)))
       go_roundg kj4
       case measure => have := HK1.out; have := HJ4.out; omega
       case rel => exact ⟨(x3_1), (wrap64 (x4_1 + 1)), zS, H', ⟨by have := HK1.out; have := HJ4.out; omega⟩, ⟨zR HO_3⟩, ⟨zD BK334⟩, ⟨zB1 HB GE334⟩⟩
     ·replace c13 := Bool.eq_false_iff.mpr c13
      subst c13
      have H1 : (some x3_1) = some r := by rw [if_neg (show ¬ (false = true) by decide)] at H; exact H
      clear H
      have H := H1
      clear H1
      obtain rfl := Option.some.inj H
      go_wp2
      go_ret
      exact ⟨_, by first | rfl | (simp [errW_none, errW_some] <;> rfl) | (simp [*, errW_none, errW_some] <;> rfl), by (with_reducible repeat (first | apply Kd.R_alloc | apply Kd.R_drewN | apply Kd.R_drew)); exact HO_3.out, zB1 HB GE334⟩

/-! ### impl_VariablesOf: function 42 -/
def impl_VariablesOf.l0 : Nat → List Int → Int → Int → Int → Int → Option (List Int)
 | 0, _, _, _, _, _ => none
 | k + 1, x3, x9, x10, x344000, x344001 => if x10 < x9 then ((impl_Table_depends.f x344000 x344001 x10).bind fun t345 => (if t345 = true then (if x3.length < 17592186044416 then (impl_VariablesOf.l0 k (x3 ++ [x10]) x9 (wrap64 (x10 + 1)) x344000 x344001) else (none)) else (impl_VariablesOf.l0 k x3 x9 (wrap64 (x10 + 1)) x344000 x344001))) else (some x3)
def impl_VariablesOf.f (k : Nat) (a0_0 : Int) (a0_1 : Int) : Option (List Int) := (impl_IsTable.f a0_0 a0_1).bind fun t344 => (if t344 = true then (impl_VariablesOf.l0 k ([] : List Int) a0_0 0 a0_0 a0_1) else (some ([] : List Int)))
theorem impl_VariablesOf.mono_l : ∀ k, (∀ y0 y1 y2 y3 y4, LeO (impl_VariablesOf.l0 k y0 y1 y2 y3 y4) (impl_VariablesOf.l0 (k + 1) y0 y1 y2 y3 y4))
 | 0 => fun _ _ _ _ _ r h => by simp [impl_VariablesOf.l0] at h
 | k + 1 => by
  have ih0 := impl_VariablesOf.mono_l k
  ·intro y0 y1 y2 y3 y4
   unfold impl_VariablesOf.l0
   repeat' first
   | (with_reducible exact ih0 _ _ _ _ _)
   | (with_reducible exact LeO.refl _)
   | (with_reducible exact LeO.none _)
   | (with_reducible refine LeO.ite ?_ ?_)
   | (with_reducible refine LeO.bind ?_ (fun _ => ?_))
   | exact ih0 _ _ _ _ _
   | exact LeO.none _
   | refine LeO.ite ?_ ?_
   | refine LeO.bind ?_ (fun _ => ?_)
theorem impl_VariablesOf.mono : ∀ a0 a1 k, LeO (impl_VariablesOf.f k a0 a1) (impl_VariablesOf.f (k + 1) a0 a1) := by
 intro a0 a1 k
 have ih0 := impl_VariablesOf.mono_l k
 unfold impl_VariablesOf.f
 repeat' first
   | (with_reducible exact ih0 _ _ _ _ _)
   | (with_reducible exact LeO.refl _)
   | (with_reducible exact LeO.none _)
   | (with_reducible refine LeO.ite ?_ ?_)
   | (with_reducible refine LeO.bind ?_ (fun _ => ?_))
   | exact ih0 _ _ _ _ _
   | exact LeO.none _
   | refine LeO.ite ?_ ?_
   | refine LeO.bind ?_ (fun _ => ?_)
set_option maxHeartbeats 8000000 in
set_option maxRecDepth 100000 in
theorem impl_VariablesOf.calls (k : Nat) (a0_0 : Int) (a0_1 : Int) (r : List Int) (w : World) (h : impl_VariablesOf.f k a0_0 a0_1 = some r) :
  Calls Try.prog 42 #[.agg #[.int .i64 a0_0, .int .i64 a0_1]] w fun e w' => ∃ v0_ : Value, e = .returned (v0_) ∧ Kd.R (Kd.int .i64) 3 w' w.heap.size (fun _ => True) v0_ r ∧ Below w.heap.size w w' := by
 have hu23 := Try.underlying23
 have HB := zA (Below.refl w.heap.size w)
 have H := h
 unfold impl_VariablesOf.f at H
 clear h
 replace H := Option.bind_eq_some_iff.mp H
 obtain ⟨t344, A20, H⟩ := H
 replace H : (if t344 = true then (impl_VariablesOf.l0 k ([] : List Int) a0_0 0 a0_0 a0_1) else (some ([] : List Int))) = some r := H
 have A2 := zA A20
 clear A20
 by_cases c3 : t344 = true
 ·subst c3
  have H1 : (impl_VariablesOf.l0 k ([] : List Int) a0_0 0 a0_0 a0_1) = some r := by rw [if_pos rfl] at H; exact H
  clear H
  have H := H1
  clear H1
  have H' := zA H
  clear H
  go_enter Try.func42, Try.ntmps42
  go_wp2_with (first | ((with_reducible refine gate_dst (N := 1) rfl ?_); refine box_event ?hg (N := 1) ?hd (cs := #[.int .i64 a0_0, .int .i64 a0_1]) (t := 23) ?hr ?_; (case hd => rfl); (case hg => rfl); (case hr => exact zH); intro gb343 hg w4 hbox hb; have BK343 := zA (hbox); have GW343 := zg HB hg; have GE343 := zg HB hg; replace HB := zA (below_step (zB HB) hb); clear hb hbox hg; have hcz5_0 := zc0 BK343; have hcz5_1 := zc1 BK343; have hfz5_0 := blk_frozen BK343.out 0; have hfz5_1 := blk_frozen BK343.out 1) | ((with_reducible refine gate_callee (f := 80) rfl ?_); refine goesL_ (some 6) rfl rfl Try.func80 (by kernel_rfl) rfl #[.agg #[.int .i64 a0_0, .int .i64 a0_1]] rfl zM ?_; (with_reducible refine (impl_IsTable.calls a0_0 a0_1 true _ A2.out).mono ?_); rintro e w6 ⟨rfl, hb⟩; refine ⟨_, rfl, ?_⟩; replace BK343 := zb BK343 hb; replace HB := zA (below_step (zB1 HB GE343) hb); (try clear hb); (try clear hb2); (try clear hk); (try clear hi); have hcz7_0 := zc0 BK343; have hcz7_1 := zc1 BK343; have hfz7_0 := blk_frozen BK343.out 0; have hfz7_1 := blk_frozen BK343.out 1))
  go_loopg [3, 10] k (fun kq v3 v10 w' => ∃ (x3_1 : List Int) (x10_1 : Int), v10 = .int .i64 x10_1 ∧ Aside0 (impl_VariablesOf.l0 kq x3_1 a0_0 x10_1 a0_0 a0_1 = some r) ∧ Aside0 (kq ≤ k) ∧ Aside0 (Kd.R (Kd.int .i64) 3 w' w.heap.size (fun _ => True) v3 x3_1) ∧ Aside0 (w'.heap[gb343]? = some (.cells #[.int .i64 a0_0, .int .i64 a0_1] 23 (0, 0))) ∧ Aside0 (Below w.heap.size w w'))
  case atStart => exact ⟨(([] : List Int)), (0), zS, H', ⟨Nat.le_refl _⟩, ⟨by first | exact Kd.R_nil _ _ _ _ _ | exact Kd.N_nil _ _ _ _ _ | exact Kd.V_nil _ _ _ _ _ | exact Kd.Q_nil _ _ _ _ _ | exact Kd.S_nil _ _ _ _ _⟩, ⟨zD BK343⟩, ⟨zB1 HB GE343⟩⟩
  case round =>
   clear H'
   try clear p2
   try clear c3
   try clear c4
   try clear hcz5_0
   try clear hcz5_1
   try clear hcz7_0
   try clear hcz7_1
   try clear hfz5_0
   try clear hfz5_1
   try clear hfz7_0
   try clear hfz7_1
   obtain ⟨x3_1, x10_1, rfl, HA, HK1, HO_3, BK343, HB⟩ := hrel
   cases gk with
   | zero => exact absurd HA.out (by simp [impl_VariablesOf.l0])
   | succ k1 =>
    have H := HA.out
    clear HA
    simp only [impl_VariablesOf.l0] at H
    by_cases c8 : x10_1 < a0_0
    ·rw [if_pos c8] at H
     have c8b0 : decide (x10_1 < a0_0) = true := decide_eq_true c8
     clear c8
     replace H := Option.bind_eq_some_iff.mp H
     obtain ⟨t345, A90, H⟩ := H
     replace H : (if t345 = true then (if x3_1.length < 17592186044416 then (impl_VariablesOf.l0 k1 (x3_1 ++ [x10_1]) a0_0 (wrap64 (x10_1 + 1)) a0_0 a0_1) else (none)) else (impl_VariablesOf.l0 k1 x3_1 a0_0 (wrap64 (x10_1 + 1)) a0_0 a0_1)) = some r := H
     have A9 := zA A90
     clear A90
     by_cases c10 : t345 = true
     ·subst c10
      have H1 : (if x3_1.length < 17592186044416 then (impl_VariablesOf.l0 k1 (x3_1 ++ [x10_1]) a0_0 (wrap64 (x10_1 + 1)) a0_0 a0_1) else (none)) = some r := by rw [if_pos rfl] at H; exact H
      clear H
      have H := H1
      clear H1
      by_cases c11 : x3_1.length < 17592186044416
      ·rw [if_pos c11] at H
       have LMc11 := zA c11
       clear c11
       obtain ⟨y346, hy346⟩ : ∃ y_ : List Int, y_ = (x3_1 ++ [x10_1]) := ⟨_, rfl⟩
       replace H : (impl_VariablesOf.l0 k1 y346 a0_0 (wrap64 (x10_1 + 1)) a0_0 a0_1) = some r := by first | (rw [hy346]; with_reducible exact H) | (have H2_ := (Option.bind_some _ _).symm.trans H; rw [hy346]; with_reducible exact H2_) | (have H2_ := (Option.bind_some _ _).symm.trans H; with_reducible exact H2_) | with_reducible exact H | (rw [hy346]; exact H) | exact H
       have Ny346 := zA hy346
       clear hy346
       have H' := zA H
       clear H
       have hcz12_0 := zc0 BK343
       have hcz12_1 := zc1 BK343
       have hfz12_0 := blk_frozen BK343.out 0
       have hfz12_1 := blk_frozen BK343.out 1
       go_wp2_with (first | ((with_reducible refine gate_callee (f := 87) rfl ?_); refine goesL_ (some 15) rfl rfl Try.func87 (by kernel_rfl) rfl #[.agg #[.int .i64 a0_0, .int .i64 a0_1], .int .i64 x10_1] rfl zM ?_; (with_reducible refine (impl_Table_depends.calls a0_0 a0_1 x10_1 true _ A9.out).mono ?_); rintro e w13 ⟨rfl, hb⟩; refine ⟨_, rfl, ?_⟩; replace HO_3 := zA (Kd.R_below (zR HO_3) hb); replace BK343 := zb BK343 hb; replace HB := zA (below_step (zB1 HB GE343) hb); (try clear hb); (try clear hb2); (try clear hk); (try clear hi)) | ((with_reducible refine gate_builtin (b := .append) (xs := #[.tmp 16, .tmp 18]) rfl ?_); at_builtin; refine Kd.R_append (Kd.int .i64) (w0 := w) w.heap.size rfl (.tmp 16) (.tmp 18) 43 3 (.int .i64 0) 8 rfl Try.underlying43 info3 rfl (by decide) (by omega) u3 x3_1 x10_1 [.int .i64 x10_1] (fun _ => True) (fun _ => False) rfl rfl ?aP (fun _ hk => hk.elim) ?aF ?aO ?aB ?aS ?aL ?_; (case aP => exact rfl); (case aB => exact (zB1 HB GE343)); (case aF => exact (fun _ _ => trivial)); (case aO => exact (zR HO_3)); (case aS => exact (below_size (zB1 HB GE343))); (case aL => have := LMc11.out; omega); intro v347 w14 ho hb hg hat; rw [← Ny346.out] at ho; have n0_ := zA (blk_grown (g := gb343) (o := .cells #[.int .i64 a0_0, .int .i64 a0_1] 23 (0, 0)) (zD BK343) hg (Kd.R_ne HO_3.out BK343.out (by decide))); have n1_ := zA (hb); have n2_ := zA (ho); clear BK343; clear HB; clear HO_3; have BK343 := n0_; have HB := n1_; have HO348 := n2_; clear n0_ n1_ n2_; clear ho hb hg hat))
       go_roundg k1
       case measure => have := HK1.out; omega
       case rel => exact ⟨(y346), (wrap64 (x10_1 + 1)), zS, H', ⟨by have := HK1.out; omega⟩, ⟨zR HO348⟩, ⟨zD BK343⟩, ⟨zB1 HB GE343⟩⟩
      ·rw [if_neg c11] at H
       exact absurd H (by simp)
     ·replace c10 := Bool.eq_false_iff.mpr c10
      subst c10
      have H1 : (impl_VariablesOf.l0 k1 x3_1 a0_0 (wrap64 (x10_1 + 1)) a0_0 a0_1) = some r := by rw [if_neg (show ¬ (false = true) by decide)] at H; exact H
      clear H
      have H := H1
      clear H1
      have H' := zA H
      clear H
      have hcz15_0 := zc0 BK343
      have hcz15_1 := zc1 BK343
      have hfz15_0 := blk_frozen BK343.out 0
      have hfz15_1 := blk_frozen BK343.out 1
      go_wp2_with (first | ((with_reducible refine gate_callee (f := 87) rfl ?_); refine goesL_ (some 15) rfl rfl Try.func87 (by kernel_rfl) rfl #[.agg #[.int .i64 a0_0, .int .i64 a0_1], .int .i64 x10_1] rfl zM ?_; (with_reducible refine (impl_Table_depends.calls a0_0 a0_1 x10_1 false _ A9.out).mono ?_); rintro e w16 ⟨rfl, hb⟩; refine ⟨_, rfl, ?_⟩; replace HO_3 := zA (Kd.R_below (zR HO_3) hb); replace BK343 := zb BK343 hb; replace HB := zA (below_step (zB1 HB GE343) hb); (try clear hb); (try clear hb2); (try clear hk); (try clear hi)))
      go_roundg k1
      case measure => have := HK1.out; omega
      case rel => exact ⟨(x3_1), (wrap64 (x10_1 + 1)), zS, H', ⟨by have := HK1.out; omega⟩, ⟨zR HO_3⟩, ⟨zD BK343⟩, ⟨zB1 HB GE343⟩⟩
    ·rw [if_neg c8] at H
     have c8b0 : decide (x10_1 < a0_0) = false := decide_eq_false c8
     clear c8
     obtain rfl := Option.some.inj H
     go_wp2
     go_ret
     exact ⟨_, by first | rfl | (simp [errW_none, errW_some] <;> rfl) | (simp [*, errW_none, errW_some] <;> rfl), by (with_reducible repeat (first | apply Kd.R_alloc | apply Kd.R_drewN | apply Kd.R_drew)); exact HO_3.out, zB1 HB GE343⟩
 ·replace c3 := Bool.eq_false_iff.mpr c3
  subst c3
  have H1 : (some ([] : List Int)) = some r := by rw [if_neg (show ¬ (false = true) by decide)] at H; exact H
  clear H
  have H := H1
  clear H1
  obtain rfl := Option.some.inj H
  go_enter Try.func42, Try.ntmps42
  go_wp2_with (first | ((with_reducible refine gate_dst (N := 1) rfl ?_); refine box_event ?hg (N := 1) ?hd (cs := #[.int .i64 a0_0, .int .i64 a0_1]) (t := 23) ?hr ?_; (case hd => rfl); (case hg => rfl); (case hr => exact zH); intro gb343 hg w17 hbox hb; have BK343 := zA (hbox); have GW343 := zg HB hg; have GE343 := zg HB hg; replace HB := zA (below_step (zB HB) hb); clear hb hbox hg; have hcz18_0 := zc0 BK343; have hcz18_1 := zc1 BK343; have hfz18_0 := blk_frozen BK343.out 0; have hfz18_1 := blk_frozen BK343.out 1) | ((with_reducible refine gate_callee (f := 80) rfl ?_); refine goesL_ (some 6) rfl rfl Try.func80 (by kernel_rfl) rfl #[.agg #[.int .i64 a0_0, .int .i64 a0_1]] rfl zM ?_; (with_reducible refine (impl_IsTable.calls a0_0 a0_1 false _ A2.out).mono ?_); rintro e w19 ⟨rfl, hb⟩; refine ⟨_, rfl, ?_⟩; replace BK343 := zb BK343 hb; replace HB := zA (below_step (zB1 HB GE343) hb); (try clear hb); (try clear hb2); (try clear hk); (try clear hi)))
  go_ret
  exact ⟨_, by first | rfl | (simp [errW_none, errW_some] <;> rfl) | (simp [*, errW_none, errW_some] <;> rfl), by first | exact Kd.R_nil _ _ _ _ _ | exact Kd.N_nil _ _ _ _ _ | exact Kd.V_nil _ _ _ _ _ | exact Kd.Q_nil _ _ _ _ _ | exact Kd.S_nil _ _ _ _ _, zB1 HB GE343⟩

end Go.Proofs.Ytijpcemcijaeeaa.P
