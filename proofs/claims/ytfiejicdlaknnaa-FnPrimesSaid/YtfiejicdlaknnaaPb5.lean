/- The functions that this seat's laws reach, each as a plain Lean function, and the walk of each; written by a program over the kit's print. No conditions but those that stand in the theorems. -/
import Derived.Test.YtfiejicdlaknnaaK2
import Derived.Test.YtfiejicdlaknnaaPb1
import Derived.Test.YtfiejicdlaknnaaPb2
import Derived.Test.YtfiejicdlaknnaaK3
import Derived.Test.YtfiejicdlaknnaaPx5
namespace Go.Proofs.Ytfiejicdlaknnaa.P
open Go.RowKit Go.Proofs.YtfiejicdlaknnaaW.PrintWords Go.Proofs.YtfiejicdlaknnaaW.PrintLast Go.Proofs.YtfiejicdlaknnaaW.PrintMore
attribute [local go_sem] max2_int min2_int max_two min_two max_three min_three max_four min_four   -- for this text's walks alone
set_option linter.unusedVariables false
set_option linter.unusedSimpArgs false

attribute [local go_sem] fld25_0 fld25_1
/-! ### spec_l6Both: function 55 -/
def spec_l6Both.j0 : Nat → List (S33) → Bool → List Int → Int → Int → Int → Int → Option (Int × Int × Int × Int)
 | 0, _, _, _, _, _, _, _ => none
 | k + 1, x6, x26, x514000, x514001, x514002, x519000, x519001 => if x26 = true then ((spec_l1Below.f x514000 x514001 x514002 (x6.length : Int)).bind fun bt526 => (if 0 ≤ bt526.1 then (if bt526.1 < (x6.length : Int) then (some (x519000, x519001, (rd_T33 x6 bt526.1).f0, (rd_T33 x6 bt526.1).f1)) else (none)) else (none))) else ((spec_l6Draw.f x514000 x514001 x514002 4).bind fun bt530 => (some (x519000, x519001, bt530.1, bt530.2.1)))
def spec_l6Both.f (k : Nat) (l0 : List Int) : Option (Int × Int × Int × Int) := (spec_l1New.f k l0).bind fun bt510 => ((spec_l2Any.f k bt510.1 bt510.2.1 bt510.2.2).bind fun bt514 => ((spec_PrimesOf.f k bt514.1 bt514.2.1).bind fun bt519 => (if bt519.2 = true then (if (bt519.1.length : Int) > 0 then ((spec_l1Once.f bt510.1 bt514.2.2.1 bt514.2.2.2 2).bind fun bt523 => (spec_l6Both.j0 k bt519.1 bt523.1 bt510.1 bt523.2.1 bt523.2.2 bt514.1 bt514.2.1)) else (spec_l6Both.j0 k bt519.1 false bt510.1 bt514.2.2.1 bt514.2.2.2 bt514.1 bt514.2.1)) else (spec_l6Both.j0 k bt519.1 false bt510.1 bt514.2.2.1 bt514.2.2.2 bt514.1 bt514.2.1))))
theorem spec_l6Both.mono_l : ∀ k, (∀ y0 y1 y2 y3 y4 y5 y6, LeO (spec_l6Both.j0 k y0 y1 y2 y3 y4 y5 y6) (spec_l6Both.j0 (k + 1) y0 y1 y2 y3 y4 y5 y6))
 | 0 => fun _ _ _ _ _ _ _ r h => by simp [spec_l6Both.j0] at h
 | k + 1 => by
  have ih0 := spec_l6Both.mono_l k
  ·intro y0 y1 y2 y3 y4 y5 y6
   unfold spec_l6Both.j0
   repeat' first
   | (with_reducible exact ih0 _ _ _ _ _ _ _)
   | (with_reducible exact spec_PrimesOf.mono _ _ _)
   | (with_reducible exact spec_l1New.mono _ _)
   | (with_reducible exact spec_l2Any.mono _ _ _ _)
   | (with_reducible exact LeO.refl _)
   | (with_reducible exact LeO.none _)
   | (with_reducible refine LeO.ite ?_ ?_)
   | (with_reducible refine LeO.bind ?_ (fun _ => ?_))
   | exact ih0 _ _ _ _ _ _ _
   | exact spec_PrimesOf.mono _ _ _
   | exact spec_l1New.mono _ _
   | exact spec_l2Any.mono _ _ _ _
   | exact LeO.none _
   | refine LeO.ite ?_ ?_
   | refine LeO.bind ?_ (fun _ => ?_)
theorem spec_l6Both.mono : ∀ a0 k, LeO (spec_l6Both.f k a0) (spec_l6Both.f (k + 1) a0) := by
 intro a0 k
 have ih0 := spec_l6Both.mono_l k
 unfold spec_l6Both.f
 repeat' first
   | (with_reducible exact ih0 _ _ _ _ _ _ _)
   | (with_reducible exact spec_PrimesOf.mono _ _ _)
   | (with_reducible exact spec_l1New.mono _ _)
   | (with_reducible exact spec_l2Any.mono _ _ _ _)
   | (with_reducible exact LeO.refl _)
   | (with_reducible exact LeO.none _)
   | (with_reducible refine LeO.ite ?_ ?_)
   | (with_reducible refine LeO.bind ?_ (fun _ => ?_))
   | exact ih0 _ _ _ _ _ _ _
   | exact spec_PrimesOf.mono _ _ _
   | exact spec_l1New.mono _ _
   | exact spec_l2Any.mono _ _ _ _
   | exact LeO.none _
   | refine LeO.ite ?_ ?_
   | refine LeO.bind ?_ (fun _ => ?_)
def spec_l6Both.T5 : Bool × List (List Nat × List Nat) := (true, [([], []), ([], []), ([], []), ([], []), ([3], [3]), ([2, 4], [2, 4]), ([1, 5], [1, 5]), ([6], [6]), ([0, 5, 0], [0]), ([7, 8, 0, 1, 2, 3, 4, 5, 6, 7, 8], [7])])
def spec_l6Both.B5 : List Nat := [0, 0, 0, 0, 8, 28, 62, 126, 61, 511]
theorem spec_l6Both.tab5 : rtab .any (opsOf Try.f55 5) = spec_l6Both.T5 := by kernel_rfl
theorem spec_l6Both.bits5 : waitsOk spec_l6Both.T5.2 spec_l6Both.B5 = true := by kernel_rfl
set_option maxHeartbeats 8000000 in
set_option maxRecDepth 100000 in
theorem spec_l6Both.calls (k : Nat) (A0 : Option Addr) (c0 : Nat) (l0 : List Int) (r1 : Int) (r2 : Int) (r3 : Int) (r4 : Int) (w : World) (hr0 : Kd.C (Kd.int .u8) w A0 l0.length l0) (hc0 : l0.length ≤ c0) (h : spec_l6Both.f k l0 = some (r1, r2, r3, r4)) :
  Calls Try.prog 55 #[.slice A0 l0.length c0] w fun e w' => e = .returned (.tuple #[.agg #[.int .i64 r1, .int .i64 r2], .agg #[.int .i64 r3, .int .i64 r4]]) ∧ Below w.heap.size w w' := by
 have hu25 := Try.underlying25
 have hu33 := Try.underlying33
 have HR0 := zA hr0
 have HC0 := zA hc0
 clear hr0 hc0
 have HB := zA (Below.refl w.heap.size w)
 have H := h
 unfold spec_l6Both.f at H
 clear h
 replace H := Option.bind_eq_some_iff.mp H
 obtain ⟨⟨t510, t511, t512⟩, A20, H⟩ := H
 have A2 := zA A20
 clear A20
 replace H := Option.bind_eq_some_iff.mp H
 obtain ⟨⟨t514, t515, t516, t517⟩, A30, H⟩ := H
 have A3 := zA A30
 clear A30
 replace H := Option.bind_eq_some_iff.mp H
 obtain ⟨⟨t519, t522⟩, A40, H⟩ := H
 replace H : (if t522 = true then (if (t519.length : Int) > 0 then ((spec_l1Once.f t510 t516 t517 2).bind fun bt523 => (spec_l6Both.j0 k t519 bt523.1 t510 bt523.2.1 bt523.2.2 t514 t515)) else (spec_l6Both.j0 k t519 false t510 t516 t517 t514 t515)) else (spec_l6Both.j0 k t519 false t510 t516 t517 t514 t515)) = some (r1, r2, r3, r4) := H
 have A4 := zA A40
 clear A40
 have HC5 := zA H
 clear H
 go_enter Try.func55, Try.ntmps55
 go_upto_region 4 with (first | ((with_reducible refine gate_dst (N := 2) rfl ?_); (try (refine gate_guard (by rfl) ?_; dsimp only)); refine box_event ?hg (N := 2) ?hd (cs := #[.int .i64 0, .int .i64 0]) (t := 25) ?hr ?_; (case hd => rfl); (case hg => rfl); (case hr => exact zH); intro gb508 hg w6 hbox hb; have BK508 := zA (hbox); have GW508 := zg HB hg; have GE508 := zg HB hg; replace HB := zA (below_step (zB HB) hb); clear hb hbox hg) | ((with_reducible refine gate_dst (N := 3) rfl ?_); (try (refine gate_guard (by rfl) ?_; dsimp only)); refine box_event ?hg (N := 3) ?hd (cs := #[.int .i64 0, .int .i64 0]) (t := 33) ?hr ?_; (case hd => rfl); (case hg => rfl); (case hr => exact zH); intro gb509 hg w7 hbox hb; have BK509 := zA (hbox); have GW509 := zg1 HB GE508 hg; have GE509 := zg1 HB GE508 hg; have NB508_509 := zn BK508 hg; have NB509_508 := zo BK508 hg; replace BK508 := zb BK508 hb; replace HB := zA (below_step (zB1 HB GE508) hb); clear hb hbox hg) | ((with_reducible refine gate_callee (f := 33) rfl ?_); refine goesL_ (some 9) rfl rfl Try.func33 (by kernel_rfl) rfl #[.slice A0 l0.length c0] rfl zM ?_; (with_reducible refine (spec_l1New.calls k _ _ l0 t510 t511 t512 w _ ?side1 ?side2 ?side3 A2.out).mono ?_); (case side1 => exact zB2 HB GE508 GE509); (case side2 => exact HR0.out); (case side3 => exact HC0.out); rintro e w8 ⟨g513, rfl, hi, hb, hb2⟩; refine ⟨_, rfl, ?_⟩; have HI513 := zA (hi); have NB513_508 := zA (IsS77.ne_blk hi (blk_below (g := gb508) (o := .cells #[.int .i64 0, .int .i64 0] 25 (0, 0)) (zD BK508) hb2) (by decide)); have NB508_513 := zA (Ne.symm (IsS77.ne_blk hi (blk_below (g := gb508) (o := .cells #[.int .i64 0, .int .i64 0] 25 (0, 0)) (zD BK508) hb2) (by decide))); have NB513_509 := zA (IsS77.ne_blk hi (blk_below (g := gb509) (o := .cells #[.int .i64 0, .int .i64 0] 33 (0, 0)) (zD BK509) hb2) (by decide)); have NB509_513 := zA (Ne.symm (IsS77.ne_blk hi (blk_below (g := gb509) (o := .cells #[.int .i64 0, .int .i64 0] 33 (0, 0)) (zD BK509) hb2) (by decide))); replace BK508 := zb BK508 hb2; replace BK509 := zb BK509 hb2; replace HB := zA (hb); (try clear hb); (try clear hb2); (try clear hk); (try clear hi)) | ((with_reducible refine gate_callee (f := 32) rfl ?_); refine goesL_ (some 11) rfl rfl Try.func32 (by kernel_rfl) rfl #[.pointer (some ⟨g513, 0, none⟩)] rfl zM ?_; (with_reducible refine (spec_l2Any.calls k g513 t510 t511 t512 t514 t515 t516 t517 w _ ?side1 ?side2 A3.out).mono ?_); (case side1 => exact zI2 HI513 NB513_508 NB513_509); (case side2 => exact zB3 HB (zA (IsS77.ge HI513.out)) GE508 GE509); rintro e w9 ⟨rfl, hi, hb, hk⟩; refine ⟨_, rfl, ?_⟩; replace BK508 := zA (KeepBut.blk hk (g' := gb508) (o := .cells #[.int .i64 0, .int .i64 0] 25 (0, 0)) (zD BK508) NB508_513.out (by simp)); replace BK509 := zA (KeepBut.blk hk (g' := gb509) (o := .cells #[.int .i64 0, .int .i64 0] 33 (0, 0)) (zD BK509) NB509_513.out (by simp)); replace HB := zA (hb); replace HI513 := zA (hi); (try clear hb); (try clear hb2); (try clear hk); (try clear hi)) | ((with_reducible refine gate_dst (N := 5) rfl ?_); (try (refine gate_guard (by rfl) ?_; dsimp only)); refine box_event ?hg (N := 5) ?hd (cs := #[.int .i64 0, .int .i64 0]) (t := 25) ?hr ?_; (case hd => rfl); (case hg => rfl); (case hr => exact zH); intro gb518 hg w10 hbox hb; have BK518 := zA (hbox); have GW518 := zA ((by rw [hg]; exact (below_size (zB3 HB (zA (IsS77.ge HI513.out)) GE508 GE509)) : w.heap.size ≤ gb518)); have GE518 := zA ((by rw [hg]; exact (below_size (zB3 HB (zA (IsS77.ge HI513.out)) GE508 GE509)) : w.heap.size ≤ gb518)); have NB508_518 := zn BK508 hg; have NB518_508 := zo BK508 hg; have NB509_518 := zn BK509 hg; have NB518_509 := zo BK509 hg; have NB513_518 := zA ((by rw [hg]; exact Nat.ne_of_lt (IsS77.lt (show IsS77 w _ g513 t510 t516 t517 from zI2 HI513 NB513_508 NB513_509)) : g513 ≠ gb518)); have NB518_513 := zA ((by rw [hg]; exact Nat.ne_of_gt (IsS77.lt (show IsS77 w _ g513 t510 t516 t517 from zI2 HI513 NB513_508 NB513_509)) : gb518 ≠ g513)); replace BK508 := zb BK508 hb; replace BK509 := zb BK509 hb; replace HB := zA (below_step (zB3 HB (zA (IsS77.ge HI513.out)) GE508 GE509) hb); replace HI513 := zA (IsS77.below (zI2 HI513 NB513_508 NB513_509) hb); clear hb hbox hg; have hnb11 := NB518_508.out; have hnc11 := NB508_518.out; have hnb12 := NB518_509.out; have hnc12 := NB509_518.out; have hnb13 := NB518_513.out; have hnc13 := NB513_518.out; have hcz14_0 := zc0 BK518; have hcz14_1 := zc1 BK518; have hfz14_0 := blk_frozen BK518.out 0; have hfz14_1 := blk_frozen BK518.out 1) | ((with_reducible refine gate_callee (f := 10) rfl ?_); refine goesL_ (some 14) rfl rfl Try.func10 (by kernel_rfl) rfl #[.agg #[.int .i64 t514, .int .i64 t515]] rfl zM ?_; (with_reducible refine (spec_PrimesOf.calls k t514 t515 t519 t522 _ A4.out).mono ?_); rintro e w15 ⟨v520, rfl, ho0, hb⟩; refine ⟨_, rfl, ?_⟩; have HO521 := zA (Kd.R_lower (Kd.R_newB ho0 (g := gb509) (o := .cells #[.int .i64 0, .int .i64 0] 33 (0, 0)) (zF BK509 NB509_518)) (below_size (zB4 HB (zA (IsS77.ge HI513.out)) GE508 GE509 GE518))); replace BK508 := zf BK508 NB508_518 hb; replace BK509 := zf BK509 NB509_518 hb; replace BK518 := zp BK518 hb; replace HB := zA (below_step (zB4 HB (zA (IsS77.ge HI513.out)) GE508 GE509 GE518) hb); replace HI513 := zA (IsS77.below (show IsS77 w ((w10.setCell ⟨gb518, 0, none⟩ (.int .i64 t514)).setCell ⟨gb518, 1, none⟩ (.int .i64 t515)) g513 t510 t516 t517 from zI3 HI513 NB513_508 NB513_509 NB513_518) hb); (try clear hb); (try clear hb2); (try clear hk); (try clear hi); (try clear ho0)))
 (try simp only [Act.put, List.setIfInBounds_toArray, List.set_cons_zero, List.set_cons_succ])
 go_cut [26] (fun v26 wc => ∃ (kq : Nat) (x26_4 : Bool) (x514001_4 : Int) (x514002_4 : Int), v26 = .bool x26_4 ∧ Aside0 (spec_l6Both.j0 kq t519 x26_4 t510 x514001_4 x514002_4 t514 t515 = some (r1, r2, r3, r4)) ∧ Aside0 (kq ≤ k) ∧ Aside0 (Kd.R k33 33 wc w.heap.size (fun k_ => k_ ≠ gb509) v520 t519) ∧ Aside0 (wc.heap[gb508]? = some (.cells #[.int .i64 0, .int .i64 0] 25 (0, 0))) ∧ Aside0 (wc.heap[gb509]? = some (.cells #[.int .i64 0, .int .i64 0] 33 (0, 0))) ∧ Aside0 (wc.heap[gb518]? = some (.cells #[.int .i64 t514, .int .i64 t515] 25 (0, 0))) ∧ Aside0 (IsS77 w wc g513 t510 x514001_4 x514002_4) ∧ Aside0 (Below w.heap.size w wc))
 case first =>
  have H := HC5.out
  clear HC5
  by_cases c16 : t522 = true
  ·subst c16
   have H1 : (if (t519.length : Int) > 0 then ((spec_l1Once.f t510 t516 t517 2).bind fun bt523 => (spec_l6Both.j0 k t519 bt523.1 t510 bt523.2.1 bt523.2.2 t514 t515)) else (spec_l6Both.j0 k t519 false t510 t516 t517 t514 t515)) = some (r1, r2, r3, r4) := by rw [if_pos rfl] at H; exact H
   clear H
   have H := H1
   clear H1
   by_cases c17 : (t519.length : Int) > 0
   ·rw [if_pos c17] at H
    have c17b0 : decide (0 < (t519.length : Int)) = true := decide_eq_true c17
    have c17b1 : decide (0 < t519.length) = true := decide_eq_true (by omega)
    clear c17
    (first | rw [c17b0] | (simp only [i64_w, i32_w]; rw [c17b0]) | skip)
    replace H := Option.bind_eq_some_iff.mp H
    obtain ⟨⟨t523, t524, t525⟩, A180, H⟩ := H
    replace H : (spec_l6Both.j0 k t519 t523 t510 t524 t525 t514 t515) = some (r1, r2, r3, r4) := H
    have A18 := zA A180
    clear A180
    have H' := zA H
    clear H
    obtain ⟨Ao19, co19, eo19⟩ := Kd.R_slice HO521.out
    subst eo19
    go_wp2_with (first | (go_at_call 72; (with_reducible refine (spec_l1Once.calls g513 t510 t516 t517 2 t523 t524 t525 w _ ?side1 ?side2 A18.out).mono ?_); (case side1 => exact zI3 HI513 NB513_508 NB513_509 NB513_518); (case side2 => exact zB4 HB (zA (IsS77.ge HI513.out)) GE508 GE509 GE518); rintro e w20 ⟨rfl, hi, hb, hk⟩; replace BK508 := zA (KeepBut.blk hk (g' := gb508) (o := .cells #[.int .i64 0, .int .i64 0] 25 (0, 0)) (zD BK508) NB508_513.out (by simp)); replace BK509 := zA (KeepBut.blk hk (g' := gb509) (o := .cells #[.int .i64 0, .int .i64 0] 33 (0, 0)) (zD BK509) NB509_513.out (by simp)); replace BK518 := zA (KeepBut.blk hk (g' := gb518) (o := .cells #[.int .i64 t514, .int .i64 t515] 25 (0, 0)) (zD BK518) NB518_513.out (by simp)); replace HO521 := zA (Kd.R_mono (Kd.R_keep (IsS77.apart (show IsS77 w _ g513 t510 t516 t517 from zI3 HI513 NB513_508 NB513_509 NB513_518) (zR HO521) (by decide)) hk (fun _ h => h.2)) (fun _ h => h.1)); replace HB := zA (hb); replace HI513 := zA (hi); (try clear hb); (try clear hb2); (try clear hk); (try clear hi)))
    go_meet
    case rel => exact ⟨_, (t523), (t524), (t525), zS, H', ⟨by first | omega | exact Nat.le_refl _⟩, ⟨by (with_reducible repeat (first | apply Kd.R_alloc | apply Kd.R_drewN | apply Kd.R_drew)); exact Kd.R_mono HO521.out (fun _ hk => hk.2)⟩, ⟨zD BK508⟩, ⟨zD BK509⟩, ⟨zD BK518⟩, ⟨zI3 HI513 NB513_508 NB513_509 NB513_518⟩, ⟨zB4 HB (zA (IsS77.ge HI513.out)) GE508 GE509 GE518⟩⟩
   ·rw [if_neg c17] at H
    have c17b0 : decide (0 < (t519.length : Int)) = false := decide_eq_false c17
    have c17b1 : decide (0 < t519.length) = false := decide_eq_false (by omega)
    clear c17
    (first | rw [c17b0] | (simp only [i64_w, i32_w]; rw [c17b0]) | skip)
    have H' := zA H
    clear H
    obtain ⟨Ao21, co21, eo21⟩ := Kd.R_slice HO521.out
    subst eo21
    go_wp2
    go_meet
    case rel => exact ⟨_, (false), (t516), (t517), zS, H', ⟨by first | omega | exact Nat.le_refl _⟩, ⟨by (with_reducible repeat (first | apply Kd.R_alloc | apply Kd.R_drewN | apply Kd.R_drew)); exact Kd.R_mono HO521.out (fun _ hk => hk.2)⟩, ⟨zD BK508⟩, ⟨zD BK509⟩, ⟨zD BK518⟩, ⟨zI3 HI513 NB513_508 NB513_509 NB513_518⟩, ⟨zB4 HB (zA (IsS77.ge HI513.out)) GE508 GE509 GE518⟩⟩
  ·replace c16 := Bool.eq_false_iff.mpr c16
   subst c16
   have H1 : (spec_l6Both.j0 k t519 false t510 t516 t517 t514 t515) = some (r1, r2, r3, r4) := by rw [if_neg (show ¬ (false = true) by decide)] at H; exact H
   clear H
   have H := H1
   clear H1
   have H' := zA H
   clear H
   go_wp2
   go_meet
   case rel => exact ⟨_, (false), (t516), (t517), zS, H', ⟨by first | omega | exact Nat.le_refl _⟩, ⟨by (with_reducible repeat (first | apply Kd.R_alloc | apply Kd.R_drewN | apply Kd.R_drew)); exact Kd.R_mono HO521.out (fun _ hk => hk.2)⟩, ⟨zD BK508⟩, ⟨zD BK509⟩, ⟨zD BK518⟩, ⟨zI3 HI513 NB513_508 NB513_509 NB513_518⟩, ⟨zB4 HB (zA (IsS77.ge HI513.out)) GE508 GE509 GE518⟩⟩
 case rest =>
  clear HC5
  try clear hcz14_0
  try clear hcz14_1
  try clear hfz14_0
  try clear hfz14_1
  obtain ⟨kq, x26_4, x514001_4, x514002_4, rfl, HA, HJ4, HO_6, BK508, BK509, BK518, HI513, HB⟩ := hcut
  cases kq with
  | zero => exact absurd HA.out (by simp [spec_l6Both.j0])
  | succ kj4 =>
   have H := HA.out
   clear HA
   simp only [spec_l6Both.j0] at H
   by_cases c22 : x26_4 = true
   ·subst c22
    have H1 : ((spec_l1Below.f t510 x514001_4 x514002_4 (t519.length : Int)).bind fun bt526 => (if 0 ≤ bt526.1 then (if bt526.1 < (t519.length : Int) then (some (t514, t515, (rd_T33 t519 bt526.1).f0, (rd_T33 t519 bt526.1).f1)) else (none)) else (none))) = some (r1, r2, r3, r4) := by rw [if_pos rfl] at H; exact H
    clear H
    have H := H1
    clear H1
    replace H := Option.bind_eq_some_iff.mp H
    obtain ⟨⟨t526, t527, t528⟩, A230, H⟩ := H
    replace H : (if 0 ≤ t526 then (if t526 < (t519.length : Int) then (some (t514, t515, (rd_T33 t519 t526).f0, (rd_T33 t519 t526).f1)) else (none)) else (none)) = some (r1, r2, r3, r4) := H
    have A23 := zA A230
    clear A230
    by_cases c24 : 0 ≤ t526
    ·rw [if_pos c24] at H
     have c24b0 : decide (0 ≤ t526) = true := decide_eq_true c24
     clear c24
     by_cases c25 : t526 < (t519.length : Int)
     ·rw [if_pos c25] at H
      have c25b0 : decide (t526 < (t519.length : Int)) = true := decide_eq_true c25
      clear c25
      simp only [Option.some.injEq, Prod.mk.injEq] at H
      obtain ⟨rfl, rfl, rfl, rfl⟩ := H
      try go_wp2
      have n0_ := zA (Kd.R_drew HO_6.out)
      have n1_ := zA (blk_drew BK508.out)
      have n2_ := zA (blk_drew BK509.out)
      have n3_ := zA (blk_drew BK518.out)
      have n4_ := zA (IsS77.drew HI513.out)
      have n5_ := zA (below_drew1 HB.out)
      clear HO_6
      clear BK508
      clear BK509
      clear BK518
      clear HI513
      clear HB
      have HO_6 := n0_
      have BK508 := n1_
      have BK509 := n2_
      have BK518 := n3_
      have HI513 := n4_
      have HB := n5_
      clear n0_ n1_ n2_ n3_ n4_ n5_
      obtain ⟨Ao27, co27, eo27⟩ := Kd.R_slice HO_6.out
      (first | subst eo27 | (injection eo27 with f1_ f2_ f3_; have f4_ := f1_.symm; have f5_ := f3_.symm; clear f1_ f2_ f3_; subst f4_; subst f5_))
      have p529 : 0 ≤ (t526 : Int) := of_decide_eq_true (by first | (with_reducible assumption) | assumption)
      have q529 : t526 < (t519.length : Int) := of_decide_eq_true (by first | (with_reducible assumption) | assumption)
      obtain ⟨ad529, e529, hx529_0, hx529_1⟩ := at_T33 (Kd.R_reads' HO_6.out).2.2 t526 p529 q529
      cases e529
      replace p529 := eq_true p529
      replace q529 := eq_true q529
      refine start_ (n := 10) (S := fun w' => w'.cell? ⟨gb518, 0, none⟩ = some (.int .i64 t514) ∧ w'.cell? ⟨gb518, 1, none⟩ = some (.int .i64 t515) ∧ w'.cell? (ad529.add ((t526).toNat * 2)) = some (.int .i64 ((rd_T33 t519 t526).f0)) ∧ w'.cell? ⟨(ad529.add ((t526).toNat * 2)).block, (ad529.add ((t526).toNat * 2)).off + 1, none⟩ = some (.int .i64 ((rd_T33 t519 t526).f1))) (ds := []) #[false, false, false, false, false, false, false, false, false, false] (by kernel_rfl) rfl rfl ⟨(blk_cell BK518.out 0).trans rfl, (blk_cell BK518.out 1).trans rfl, hx529_0, hx529_1⟩ (fun hHeld => ?_); refine with_tabW spec_l6Both.tab5 spec_l6Both.bits5 (fun HT_ HW_ => ?_)
      generalize wc.drew = w26 at HO_6 BK508 BK509 BK518 HI513 HB hx529_0 hx529_1 hHeld ⊢
      refine pure_ (i := 1) (N := some 28) (v := ?_) (a' := ?_) #[false, true, false, false, false, false, false, false, false, false] rfl rfl (any_of HT_.out (by kernel_rfl)) (fun _ _ _ h => h) (Or.inl ⟨by rfl, ?_⟩) ?_ ?_
      rotate_left
      ·intro w'
       go_simp
       with_reducible rfl
      rotate_left
      ·exact zU
      refine pure_ (i := 2) (N := some 29) (v := ?_) (a' := ?_) #[false, true, true, false, false, false, false, false, false, false] rfl rfl (any_of HT_.out (by kernel_rfl)) (fun _ _ _ h => h) (Or.inl ⟨by rfl, ?_⟩) ?_ ?_
      rotate_left
      ·intro w'
       go_simp
       with_reducible rfl
      rotate_left
      ·exact zU
      refine pure_ (i := 3) (N := some 30) (v := ?_) (a' := ?_) #[false, true, true, true, false, false, false, false, false, false] rfl rfl (any_of HT_.out (by kernel_rfl)) (fun _ _ _ h => h) (Or.inl ⟨by rfl, ?_⟩) ?_ ?_
      rotate_left
      ·intro w'
       go_simp
       with_reducible rfl
      rotate_left
      ·exact zU
      refine pure_ (i := 4) (N := some 31) (v := ?_) (a' := ?_) #[false, true, true, true, true, false, false, false, false, false] rfl rfl (any_of HT_.out (by kernel_rfl)) (fun _ _ _ h => h) (Or.inl ⟨by rfl, ?_⟩) ?_ ?_
      rotate_left
      ·intro w'
       go_simp
       with_reducible rfl
      rotate_left
      ·exact zU
      refine take_ (i := 0) (N := some 27) (v := ?_) (a' := ?_) #[true, true, true, true, true, false, false, false, false, false] rfl rfl (take_ofW HT_.out HW_.out (by kernel_rfl)) (fun _ _ _ h => h) (Or.inl ⟨by rfl, ?_⟩) hHeld ?_ ?_
      rotate_left
      ·rintro w' ⟨s0, s1, s2, s3⟩
       go_simp
       with_reducible rfl
      rotate_left
      ·exact zU
      refine one_ (i := 5) (N := some 32) #[true, true, true, true, true, true, false, false, false, false] rfl rfl (one_of HT_.out (by kernel_rfl)) (by decide) (fun K hK => ?_)
      refine goes_ Try.func52 (by kernel_rfl) rfl #[.pointer (some ⟨g513, 0, none⟩), .int .i64 (t519.length : Int)] (by rfl) rfl rfl zM ?_
      with_reducible refine (spec_l1Below.calls g513 t510 x514001_4 x514002_4 (t519.length : Int) t526 t527 t528 w _ ?side1 ?side2 A23.out).mono ?_
      (case side1 => exact zI3 HI513 NB513_508 NB513_509 NB513_518)
      (case side2 => exact zB4 HB (zA (IsS77.ge HI513.out)) GE508 GE509 GE518)
      rintro e w28 ⟨rfl, hi, hb, hk⟩
      have HS2_ := keep_cell hk (hHeld.2.2.1) (by first | (rw [add_block]; exact Kd.own_blk (IsS77.own_ne HI513.out HO_6.out (by decide))) | (show (Addr.add _ _).block ≠ _; rw [add_block]; exact Kd.own_blk (IsS77.own_ne HI513.out HO_6.out (by decide))) | exact Kd.own_blk (IsS77.own_ne HI513.out HO_6.out (by decide)))
      have HS3_ := keep_cell hk (hHeld.2.2.2) (by first | (rw [add_block]; exact Kd.own_blk (IsS77.own_ne HI513.out HO_6.out (by decide))) | (show (Addr.add _ _).block ≠ _; rw [add_block]; exact Kd.own_blk (IsS77.own_ne HI513.out HO_6.out (by decide))) | exact Kd.own_blk (IsS77.own_ne HI513.out HO_6.out (by decide)))
      refine ⟨_, rfl, ?_⟩
      have n0_ := zA (Kd.R_mono (Kd.R_keep (IsS77.apart (show IsS77 w _ g513 t510 x514001_4 x514002_4 from zI3 HI513 NB513_508 NB513_509 NB513_518) (zR HO_6) (by decide)) hk (fun _ h => h.2)) (fun _ h => h.1))
      have n1_ := zA (KeepBut.blk hk (g' := gb508) (o := .cells #[.int .i64 0, .int .i64 0] 25 (0, 0)) (zD BK508) NB508_513.out (by simp))
      have n2_ := zA (KeepBut.blk hk (g' := gb509) (o := .cells #[.int .i64 0, .int .i64 0] 33 (0, 0)) (zD BK509) NB509_513.out (by simp))
      have n3_ := zA (KeepBut.blk hk (g' := gb518) (o := .cells #[.int .i64 t514, .int .i64 t515] 25 (0, 0)) (zD BK518) NB518_513.out (by simp))
      have n4_ := zA (hb)
      have n5_ := zA (hi)
      clear HO_6
      clear BK508
      clear BK509
      clear BK518
      clear HB
      clear HI513
      have HO_6 := n0_
      have BK508 := n1_
      have BK509 := n2_
      have BK518 := n3_
      have HB := n4_
      have HI513 := n5_
      clear n0_ n1_ n2_ n3_ n4_ n5_
      (try clear hb)
      (try clear hb2)
      (try clear hk)
      (try clear hi)
      refine hK.out _ _ ⟨(blk_cell BK518.out 0).trans rfl, (blk_cell BK518.out 1).trans rfl, HS2_, HS3_⟩ (fun hHeld => ?_)
      clear hK K
      refine norm_ (a' := ?_) ?_ ?_
      rotate_left
      ·show Act.put _ (some 32) _ = _
       simp only [Act.put, List.setIfInBounds_toArray, List.set_cons_zero, List.set_cons_succ, i64_w, i32_w]
       rfl
      refine pure_ (i := 6) (N := some 33) (v := ?_) (a' := ?_) #[true, true, true, true, true, true, true, false, false, false] rfl rfl (any_of HT_.out (by kernel_rfl)) (fun _ _ _ h => h) (Or.inl ⟨by rfl, ?_⟩) ?_ ?_
      rotate_left
      ·intro w'
       go_simp
       with_reducible rfl
      rotate_left
      ·exact zU
      refine take_ (i := 7) (N := some 34) (v := ?_) (a' := ?_) #[true, true, true, true, true, true, true, true, false, false] rfl rfl (take_ofW HT_.out HW_.out (by kernel_rfl)) (fun _ _ _ h => h) (Or.inl ⟨by rfl, ?_⟩) hHeld ?_ ?_
      rotate_left
      ·rintro w' ⟨s0, s1, s2, s3⟩
       go_simp
       with_reducible rfl
      rotate_left
      ·exact zU
      refine one_ (i := 8) (N := none) #[true, true, true, true, true, true, true, true, true, false] rfl rfl (one_of HT_.out (by kernel_rfl)) (by decide) (fun K hK => ?_)
      have hs29 : w28.cell? ⟨gb508, 0, none⟩ = some (.int .i64 0) := (blk_cell BK508.out 0).trans rfl
      have hfs29 := blk_frozen BK508.out 0
      have hns29_1 := NB509_508.out
      have hns29_2 := NB518_508.out
      have hms29_1 := NB508_509.out
      have hms29_2 := NB508_518.out
      have hs30 : w28.cell? ⟨gb508, 1, none⟩ = some (.int .i64 0) := (blk_cell BK508.out 1).trans rfl
      have hfs30 := blk_frozen BK508.out 1
      have hns30_1 := NB509_508.out
      have hns30_2 := NB518_508.out
      have hms30_1 := NB508_509.out
      have hms30_2 := NB508_518.out
      refine skip_ (w1 := ?_) (by rfl) rfl ?_ ?_
      rotate_left
      ·go_simp
       rfl
      refine hK.out _ _ ⟨((cell_far (p := ⟨gb508, _, none⟩) NB518_508.out _).trans (((cell_far (p := ⟨gb508, _, none⟩) NB518_508.out _).trans (hHeld.1)))), ((cell_far (p := ⟨gb508, _, none⟩) NB518_508.out _).trans (((cell_far (p := ⟨gb508, _, none⟩) NB518_508.out _).trans (hHeld.2.1)))), ((cell_far (p := ⟨gb508, _, none⟩) (by first | exact Kd.own_blk (Kd.R_ne HO_6.out BK508.out (by decide)) | (rw [add_block]; exact Kd.own_blk (Kd.R_ne HO_6.out BK508.out (by decide))) | (show (Addr.add _ _).block ≠ _; rw [add_block]; exact Kd.own_blk (Kd.R_ne HO_6.out BK508.out (by decide))) | (dsimp only; exact Kd.own_blk (Kd.R_ne HO_6.out BK508.out (by decide)))) _).trans (((cell_far (p := ⟨gb508, _, none⟩) (by first | exact Kd.own_blk (Kd.R_ne HO_6.out BK508.out (by decide)) | (rw [add_block]; exact Kd.own_blk (Kd.R_ne HO_6.out BK508.out (by decide))) | (show (Addr.add _ _).block ≠ _; rw [add_block]; exact Kd.own_blk (Kd.R_ne HO_6.out BK508.out (by decide))) | (dsimp only; exact Kd.own_blk (Kd.R_ne HO_6.out BK508.out (by decide)))) _).trans (hHeld.2.2.1)))), ((cell_far (p := ⟨gb508, _, none⟩) (by first | exact Kd.own_blk (Kd.R_ne HO_6.out BK508.out (by decide)) | (rw [add_block]; exact Kd.own_blk (Kd.R_ne HO_6.out BK508.out (by decide))) | (show (Addr.add _ _).block ≠ _; rw [add_block]; exact Kd.own_blk (Kd.R_ne HO_6.out BK508.out (by decide))) | (dsimp only; exact Kd.own_blk (Kd.R_ne HO_6.out BK508.out (by decide)))) _).trans (((cell_far (p := ⟨gb508, _, none⟩) (by first | exact Kd.own_blk (Kd.R_ne HO_6.out BK508.out (by decide)) | (rw [add_block]; exact Kd.own_blk (Kd.R_ne HO_6.out BK508.out (by decide))) | (show (Addr.add _ _).block ≠ _; rw [add_block]; exact Kd.own_blk (Kd.R_ne HO_6.out BK508.out (by decide))) | (dsimp only; exact Kd.own_blk (Kd.R_ne HO_6.out BK508.out (by decide)))) _).trans (hHeld.2.2.2))))⟩ (fun hHeld => ?_)
      clear hK K
      refine one_ (i := 9) (N := none) #[true, true, true, true, true, true, true, true, true, true] rfl rfl (one_of HT_.out (by kernel_rfl)) (by decide) (fun K hK => ?_)
      have hs31 : w28.cell? ⟨gb509, 0, none⟩ = some (.int .i64 0) := (blk_cell BK509.out 0).trans rfl
      have hfs31 := blk_frozen BK509.out 0
      have hns31_0 := NB508_509.out
      have hns31_2 := NB518_509.out
      have hms31_0 := NB509_508.out
      have hms31_2 := NB509_518.out
      have hs32 : w28.cell? ⟨gb509, 1, none⟩ = some (.int .i64 0) := (blk_cell BK509.out 1).trans rfl
      have hfs32 := blk_frozen BK509.out 1
      have hns32_0 := NB508_509.out
      have hns32_2 := NB518_509.out
      have hms32_0 := NB509_508.out
      have hms32_2 := NB509_518.out
      refine skip_ (w1 := ?_) (by rfl) rfl ?_ ?_
      rotate_left
      ·go_simp
       rfl
      refine hK.out _ _ ⟨((cell_far (p := ⟨gb509, _, none⟩) NB518_509.out _).trans (((cell_far (p := ⟨gb509, _, none⟩) NB518_509.out _).trans (hHeld.1)))), ((cell_far (p := ⟨gb509, _, none⟩) NB518_509.out _).trans (((cell_far (p := ⟨gb509, _, none⟩) NB518_509.out _).trans (hHeld.2.1)))), ((cell_far (p := ⟨gb509, _, none⟩) (by first | exact Kd.own_blk (Kd.R_away HO_6.out (fun _ hk => hk)) | (rw [add_block]; exact Kd.own_blk (Kd.R_away HO_6.out (fun _ hk => hk))) | (show (Addr.add _ _).block ≠ _; rw [add_block]; exact Kd.own_blk (Kd.R_away HO_6.out (fun _ hk => hk))) | (dsimp only; exact Kd.own_blk (Kd.R_away HO_6.out (fun _ hk => hk)))) _).trans (((cell_far (p := ⟨gb509, _, none⟩) (by first | exact Kd.own_blk (Kd.R_away HO_6.out (fun _ hk => hk)) | (rw [add_block]; exact Kd.own_blk (Kd.R_away HO_6.out (fun _ hk => hk))) | (show (Addr.add _ _).block ≠ _; rw [add_block]; exact Kd.own_blk (Kd.R_away HO_6.out (fun _ hk => hk))) | (dsimp only; exact Kd.own_blk (Kd.R_away HO_6.out (fun _ hk => hk)))) _).trans (hHeld.2.2.1)))), ((cell_far (p := ⟨gb509, _, none⟩) (by first | exact Kd.own_blk (Kd.R_away HO_6.out (fun _ hk => hk)) | (rw [add_block]; exact Kd.own_blk (Kd.R_away HO_6.out (fun _ hk => hk))) | (show (Addr.add _ _).block ≠ _; rw [add_block]; exact Kd.own_blk (Kd.R_away HO_6.out (fun _ hk => hk))) | (dsimp only; exact Kd.own_blk (Kd.R_away HO_6.out (fun _ hk => hk)))) _).trans (((cell_far (p := ⟨gb509, _, none⟩) (by first | exact Kd.own_blk (Kd.R_away HO_6.out (fun _ hk => hk)) | (rw [add_block]; exact Kd.own_blk (Kd.R_away HO_6.out (fun _ hk => hk))) | (show (Addr.add _ _).block ≠ _; rw [add_block]; exact Kd.own_blk (Kd.R_away HO_6.out (fun _ hk => hk))) | (dsimp only; exact Kd.own_blk (Kd.R_away HO_6.out (fun _ hk => hk)))) _).trans (hHeld.2.2.2))))⟩ (fun hHeld => ?_)
      clear hK K
      refine done_ (done_of HT_.out (by kernel_rfl)) ?_
      try go_wp2
      refine bodyPost_ret (results_cc rfl _ _ gb508 gb509 25 33 #[.int .i64 t514, .int .i64 t515] #[.int .i64 ((rd_T33 t519 t526).f0), .int .i64 ((rd_T33 t519 t526).f1)] (0, 0) (0, 0) _ _ rfl (by (with_reducible repeat (first | refine blk_drewN ?_ _ | refine blk_drew ?_ | refine blk_alloc ?_ _)); refine blk_far ?_ NB508_509.out _; (with_reducible repeat (first | refine blk_drewN ?_ _ | refine blk_drew ?_ | refine blk_alloc ?_ _)); refine blk_far ?_ NB508_509.out _; (with_reducible repeat (first | refine blk_drewN ?_ _ | refine blk_drew ?_ | refine blk_alloc ?_ _)); refine blk_put (cs := #[.int .i64 t514, .int .i64 0]) ?_ 1 _ rfl; (with_reducible repeat (first | refine blk_drewN ?_ _ | refine blk_drew ?_ | refine blk_alloc ?_ _)); refine blk_put (cs := #[.int .i64 0, .int .i64 0]) ?_ 0 _ rfl; (with_reducible repeat (first | refine blk_drewN ?_ _ | refine blk_drew ?_ | refine blk_alloc ?_ _)); exact BK508.out) Try.underlying25 rfl (by kernel_rfl) rfl (by (with_reducible repeat (first | refine blk_drewN ?_ _ | refine blk_drew ?_ | refine blk_alloc ?_ _)); refine blk_put (cs := #[.int .i64 ((rd_T33 t519 t526).f0), .int .i64 0]) ?_ 1 _ rfl; (with_reducible repeat (first | refine blk_drewN ?_ _ | refine blk_drew ?_ | refine blk_alloc ?_ _)); refine blk_put (cs := #[.int .i64 0, .int .i64 0]) ?_ 0 _ rfl; (with_reducible repeat (first | refine blk_drewN ?_ _ | refine blk_drew ?_ | refine blk_alloc ?_ _)); refine blk_far ?_ NB509_508.out _; (with_reducible repeat (first | refine blk_drewN ?_ _ | refine blk_drew ?_ | refine blk_alloc ?_ _)); refine blk_far ?_ NB509_508.out _; (with_reducible repeat (first | refine blk_drewN ?_ _ | refine blk_drew ?_ | refine blk_alloc ?_ _)); exact BK509.out) Try.underlying33 rfl (by kernel_rfl)) rfl ?_
      exact ⟨zE, zB4 HB (zA (IsS77.ge HI513.out)) GE508 GE509 GE518⟩
     ·rw [if_neg c25] at H
      exact absurd H (by simp)
    ·rw [if_neg c24] at H
     exact absurd H (by simp)
   ·replace c22 := Bool.eq_false_iff.mpr c22
    subst c22
    have H1 : ((spec_l6Draw.f t510 x514001_4 x514002_4 4).bind fun bt530 => (some (t514, t515, bt530.1, bt530.2.1))) = some (r1, r2, r3, r4) := by rw [if_neg (show ¬ (false = true) by decide)] at H; exact H
    clear H
    have H := H1
    clear H1
    replace H := Option.bind_eq_some_iff.mp H
    obtain ⟨⟨t530, t531, t532, t533⟩, A330, H⟩ := H
    replace H : (some (t514, t515, t530, t531)) = some (r1, r2, r3, r4) := H
    have A33 := zA A330
    clear A330
    simp only [Option.some.injEq, Prod.mk.injEq] at H
    obtain ⟨rfl, rfl, rfl, rfl⟩ := H
    try go_wp2
    have n0_ := zA (Kd.R_drew HO_6.out)
    have n1_ := zA (blk_drew BK508.out)
    have n2_ := zA (blk_drew BK509.out)
    have n3_ := zA (blk_drew BK518.out)
    have n4_ := zA (IsS77.drew HI513.out)
    have n5_ := zA (below_drew1 HB.out)
    clear HO_6
    clear BK508
    clear BK509
    clear BK518
    clear HI513
    clear HB
    have HO_6 := n0_
    have BK508 := n1_
    have BK509 := n2_
    have BK518 := n3_
    have HI513 := n4_
    have HB := n5_
    clear n0_ n1_ n2_ n3_ n4_ n5_
    refine start_ (n := 5) (S := fun w' => w'.cell? ⟨gb518, 0, none⟩ = some (.int .i64 t514) ∧ w'.cell? ⟨gb518, 1, none⟩ = some (.int .i64 t515)) (ds := []) #[false, false, false, false, false] (by kernel_rfl) rfl rfl ⟨(blk_cell BK518.out 0).trans rfl, (blk_cell BK518.out 1).trans rfl⟩ (fun hHeld => ?_)
    generalize wc.drew = w34 at HO_6 BK508 BK509 BK518 HI513 HB hHeld ⊢
    refine pure_ (i := 1) (N := some 36) (v := ?_) (a' := ?_) #[false, true, false, false, false] rfl rfl (by kernel_rfl) (fun _ _ _ h => h) (Or.inl ⟨by rfl, ?_⟩) ?_ ?_
    rotate_left
    ·intro w'
     go_simp
     with_reducible rfl
    rotate_left
    ·exact zU
    refine take_ (i := 0) (N := some 35) (v := ?_) (a' := ?_) #[true, true, false, false, false] rfl rfl (by kernel_rfl) (fun _ _ _ h => h) (Or.inl ⟨by rfl, ?_⟩) hHeld ?_ ?_
    rotate_left
    ·rintro w' ⟨s0, s1⟩
     go_simp
     with_reducible rfl
    rotate_left
    ·exact zU
    refine one_ (i := 2) (N := some 37) #[true, true, true, false, false] rfl rfl (by kernel_rfl) (by decide) (fun K hK => ?_)
    refine goes_ Try.func56 (by kernel_rfl) rfl #[.pointer (some ⟨g513, 0, none⟩), .int .i64 4] (by rfl) rfl rfl zM ?_
    with_reducible refine (spec_l6Draw.calls g513 t510 x514001_4 x514002_4 4 t530 t531 t532 t533 w _ ?side1 ?side2 A33.out).mono ?_
    (case side1 => exact zI3 HI513 NB513_508 NB513_509 NB513_518)
    (case side2 => exact zB4 HB (zA (IsS77.ge HI513.out)) GE508 GE509 GE518)
    rintro e w35 ⟨rfl, hi, hb, hk⟩
    refine ⟨_, rfl, ?_⟩
    have n0_ := zA (Kd.R_mono (Kd.R_keep (IsS77.apart (show IsS77 w _ g513 t510 x514001_4 x514002_4 from zI3 HI513 NB513_508 NB513_509 NB513_518) (zR HO_6) (by decide)) hk (fun _ h => h.2)) (fun _ h => h.1))
    have n1_ := zA (KeepBut.blk hk (g' := gb508) (o := .cells #[.int .i64 0, .int .i64 0] 25 (0, 0)) (zD BK508) NB508_513.out (by simp))
    have n2_ := zA (KeepBut.blk hk (g' := gb509) (o := .cells #[.int .i64 0, .int .i64 0] 33 (0, 0)) (zD BK509) NB509_513.out (by simp))
    have n3_ := zA (KeepBut.blk hk (g' := gb518) (o := .cells #[.int .i64 t514, .int .i64 t515] 25 (0, 0)) (zD BK518) NB518_513.out (by simp))
    have n4_ := zA (hb)
    have n5_ := zA (hi)
    clear HO_6
    clear BK508
    clear BK509
    clear BK518
    clear HB
    clear HI513
    have HO_6 := n0_
    have BK508 := n1_
    have BK509 := n2_
    have BK518 := n3_
    have HB := n4_
    have HI513 := n5_
    clear n0_ n1_ n2_ n3_ n4_ n5_
    (try clear hb)
    (try clear hb2)
    (try clear hk)
    (try clear hi)
    refine hK.out _ _ ⟨(blk_cell BK518.out 0).trans rfl, (blk_cell BK518.out 1).trans rfl⟩ (fun hHeld => ?_)
    clear hK K
    refine norm_ (a' := ?_) ?_ ?_
    rotate_left
    ·show Act.put _ (some 37) _ = _
     simp only [Act.put, List.setIfInBounds_toArray, List.set_cons_zero, List.set_cons_succ, i64_w, i32_w]
     rfl
    refine one_ (i := 3) (N := none) #[true, true, true, true, false] rfl rfl (by kernel_rfl) (by decide) (fun K hK => ?_)
    have hs36 : w35.cell? ⟨gb508, 0, none⟩ = some (.int .i64 0) := (blk_cell BK508.out 0).trans rfl
    have hfs36 := blk_frozen BK508.out 0
    have hns36_1 := NB509_508.out
    have hns36_2 := NB518_508.out
    have hms36_1 := NB508_509.out
    have hms36_2 := NB508_518.out
    have hs37 : w35.cell? ⟨gb508, 1, none⟩ = some (.int .i64 0) := (blk_cell BK508.out 1).trans rfl
    have hfs37 := blk_frozen BK508.out 1
    have hns37_1 := NB509_508.out
    have hns37_2 := NB518_508.out
    have hms37_1 := NB508_509.out
    have hms37_2 := NB508_518.out
    refine skip_ (w1 := ?_) (by rfl) rfl ?_ ?_
    rotate_left
    ·go_simp
     rfl
    refine hK.out _ _ ⟨((cell_far (p := ⟨gb508, _, none⟩) NB518_508.out _).trans (((cell_far (p := ⟨gb508, _, none⟩) NB518_508.out _).trans (hHeld.1)))), ((cell_far (p := ⟨gb508, _, none⟩) NB518_508.out _).trans (((cell_far (p := ⟨gb508, _, none⟩) NB518_508.out _).trans (hHeld.2))))⟩ (fun hHeld => ?_)
    clear hK K
    refine one_ (i := 4) (N := none) #[true, true, true, true, true] rfl rfl (by kernel_rfl) (by decide) (fun K hK => ?_)
    have hs38 : w35.cell? ⟨gb509, 0, none⟩ = some (.int .i64 0) := (blk_cell BK509.out 0).trans rfl
    have hfs38 := blk_frozen BK509.out 0
    have hns38_0 := NB508_509.out
    have hns38_2 := NB518_509.out
    have hms38_0 := NB509_508.out
    have hms38_2 := NB509_518.out
    have hs39 : w35.cell? ⟨gb509, 1, none⟩ = some (.int .i64 0) := (blk_cell BK509.out 1).trans rfl
    have hfs39 := blk_frozen BK509.out 1
    have hns39_0 := NB508_509.out
    have hns39_2 := NB518_509.out
    have hms39_0 := NB509_508.out
    have hms39_2 := NB509_518.out
    refine skip_ (w1 := ?_) (by rfl) rfl ?_ ?_
    rotate_left
    ·go_simp
     rfl
    refine hK.out _ _ ⟨((cell_far (p := ⟨gb509, _, none⟩) NB518_509.out _).trans (((cell_far (p := ⟨gb509, _, none⟩) NB518_509.out _).trans (hHeld.1)))), ((cell_far (p := ⟨gb509, _, none⟩) NB518_509.out _).trans (((cell_far (p := ⟨gb509, _, none⟩) NB518_509.out _).trans (hHeld.2))))⟩ (fun hHeld => ?_)
    clear hK K
    refine done_ (by kernel_rfl) ?_
    try go_wp2
    refine bodyPost_ret (results_cc rfl _ _ gb508 gb509 25 33 #[.int .i64 t514, .int .i64 t515] #[.int .i64 t530, .int .i64 t531] (0, 0) (0, 0) _ _ rfl (by (with_reducible repeat (first | refine blk_drewN ?_ _ | refine blk_drew ?_ | refine blk_alloc ?_ _)); refine blk_far ?_ NB508_509.out _; (with_reducible repeat (first | refine blk_drewN ?_ _ | refine blk_drew ?_ | refine blk_alloc ?_ _)); refine blk_far ?_ NB508_509.out _; (with_reducible repeat (first | refine blk_drewN ?_ _ | refine blk_drew ?_ | refine blk_alloc ?_ _)); refine blk_put (cs := #[.int .i64 t514, .int .i64 0]) ?_ 1 _ rfl; (with_reducible repeat (first | refine blk_drewN ?_ _ | refine blk_drew ?_ | refine blk_alloc ?_ _)); refine blk_put (cs := #[.int .i64 0, .int .i64 0]) ?_ 0 _ rfl; (with_reducible repeat (first | refine blk_drewN ?_ _ | refine blk_drew ?_ | refine blk_alloc ?_ _)); exact BK508.out) Try.underlying25 rfl (by kernel_rfl) rfl (by (with_reducible repeat (first | refine blk_drewN ?_ _ | refine blk_drew ?_ | refine blk_alloc ?_ _)); refine blk_put (cs := #[.int .i64 t530, .int .i64 0]) ?_ 1 _ rfl; (with_reducible repeat (first | refine blk_drewN ?_ _ | refine blk_drew ?_ | refine blk_alloc ?_ _)); refine blk_put (cs := #[.int .i64 0, .int .i64 0]) ?_ 0 _ rfl; (with_reducible repeat (first | refine blk_drewN ?_ _ | refine blk_drew ?_ | refine blk_alloc ?_ _)); refine blk_far ?_ NB509_508.out _; (with_reducible repeat (first | refine blk_drewN ?_ _ | refine blk_drew ?_ | refine blk_alloc ?_ _)); refine blk_far ?_ NB509_508.out _; (with_reducible repeat (first | refine blk_drewN ?_ _ | refine blk_drew ?_ | refine blk_alloc ?_ _)); exact BK509.out) Try.underlying33 rfl (by kernel_rfl)) rfl ?_
    exact ⟨zE, zB4 HB (zA (IsS77.ge HI513.out)) GE508 GE509 GE518⟩

/-! ### spec_DrawIsPrimeTerm: function 24 -/
def spec_DrawIsPrimeTerm.f (k : Nat) (l0 : List Int) : Option (Int × Int × Int × Int) := (spec_l6Both.f k l0).bind fun bt536 => (some (bt536.1, bt536.2.1, bt536.2.2.1, bt536.2.2.2))
theorem spec_DrawIsPrimeTerm.mono : ∀ a0 k, LeO (spec_DrawIsPrimeTerm.f k a0) (spec_DrawIsPrimeTerm.f (k + 1) a0) := by
 intro a0 k
 unfold spec_DrawIsPrimeTerm.f
 repeat' first
   | (with_reducible exact spec_l6Both.mono _ _)
   | (with_reducible exact LeO.refl _)
   | (with_reducible exact LeO.none _)
   | (with_reducible refine LeO.ite ?_ ?_)
   | (with_reducible refine LeO.bind ?_ (fun _ => ?_))
   | exact spec_l6Both.mono _ _
   | exact LeO.none _
   | refine LeO.ite ?_ ?_
   | refine LeO.bind ?_ (fun _ => ?_)
set_option maxHeartbeats 8000000 in
set_option maxRecDepth 100000 in
theorem spec_DrawIsPrimeTerm.calls (k : Nat) (A0 : Option Addr) (c0 : Nat) (l0 : List Int) (r1 : Int) (r2 : Int) (r3 : Int) (r4 : Int) (w : World) (hr0 : Kd.C (Kd.int .u8) w A0 l0.length l0) (hc0 : l0.length ≤ c0) (h : spec_DrawIsPrimeTerm.f k l0 = some (r1, r2, r3, r4)) :
  Calls Try.prog 24 #[.slice A0 l0.length c0] w fun e w' => e = .returned (.tuple #[.agg #[.int .i64 r1, .int .i64 r2], .agg #[.int .i64 r3, .int .i64 r4]]) ∧ Below w.heap.size w w' := by
 have hu25 := Try.underlying25
 have hu33 := Try.underlying33
 have HR0 := zA hr0
 have HC0 := zA hc0
 clear hr0 hc0
 have HB := zA (Below.refl w.heap.size w)
 have H := h
 unfold spec_DrawIsPrimeTerm.f at H
 clear h
 replace H := Option.bind_eq_some_iff.mp H
 obtain ⟨⟨t536, t537, t538, t539⟩, A20, H⟩ := H
 replace H : (some (t536, t537, t538, t539)) = some (r1, r2, r3, r4) := H
 have A2 := zA A20
 clear A20
 simp only [Option.some.injEq, Prod.mk.injEq] at H
 obtain ⟨rfl, rfl, rfl, rfl⟩ := H
 go_enter Try.func24, Try.ntmps24
 try go_wp2_with (first | ((with_reducible refine gate_dst (N := 2) rfl ?_); refine box_event ?hg (N := 2) ?hd (cs := #[.int .i64 0, .int .i64 0]) (t := 25) ?hr ?_; (case hd => rfl); (case hg => rfl); (case hr => exact zH); intro gb534 hg w3 hbox hb; have BK534 := zA (hbox); have GW534 := zg HB hg; have GE534 := zg HB hg; replace HB := zA (below_step (zB HB) hb); clear hb hbox hg) | ((with_reducible refine gate_dst (N := 3) rfl ?_); refine box_event ?hg (N := 3) ?hd (cs := #[.int .i64 0, .int .i64 0]) (t := 33) ?hr ?_; (case hd => rfl); (case hg => rfl); (case hr => exact zH); intro gb535 hg w4 hbox hb; have BK535 := zA (hbox); have GW535 := zg1 HB GE534 hg; have GE535 := zg1 HB GE534 hg; have NB534_535 := zn BK534 hg; have NB535_534 := zo BK534 hg; replace BK534 := zb BK534 hb; replace HB := zA (below_step (zB1 HB GE534) hb); clear hb hbox hg) | ((with_reducible refine gate_callee (f := 55) rfl ?_); refine goesL_ (some 8) rfl rfl Try.func55 (by kernel_rfl) rfl #[.slice A0 l0.length c0] rfl zM ?_; (with_reducible refine (spec_l6Both.calls k _ _ l0 t536 t537 t538 t539 _ ?side1 ?side2 A2.out).mono ?_); (case side1 => exact zC (Kd.C_below HR0.out HB.out)); (case side2 => exact HC0.out); rintro e w5 ⟨rfl, hb⟩; refine ⟨_, rfl, ?_⟩; replace BK534 := zb BK534 hb; replace BK535 := zb BK535 hb; replace HB := zA (below_step (zB2 HB GE534 GE535) hb); (try clear hb); (try clear hb2); (try clear hk); (try clear hi)) | ((with_reducible refine gate_dst (N := 4) rfl ?_); refine box_event ?hg (N := 4) ?hd (cs := #[.int .i64 0, .int .i64 0]) (t := 25) ?hr ?_; (case hd => rfl); (case hg => rfl); (case hr => exact zH); intro gb540 hg w6 hbox hb; have BK540 := zA (hbox); have GW540 := zg2 HB GE534 GE535 hg; have GE540 := zg2 HB GE534 GE535 hg; have NB534_540 := zn BK534 hg; have NB540_534 := zo BK534 hg; have NB535_540 := zn BK535 hg; have NB540_535 := zo BK535 hg; replace BK534 := zb BK534 hb; replace BK535 := zb BK535 hb; replace HB := zA (below_step (zB2 HB GE534 GE535) hb); clear hb hbox hg) | ((with_reducible refine gate_dst (N := 5) rfl ?_); refine box_event ?hg (N := 5) ?hd (cs := #[.int .i64 0, .int .i64 0]) (t := 33) ?hr ?_; (case hd => rfl); (case hg => rfl); (case hr => exact zH); intro gb541 hg w7 hbox hb; have BK541 := zA (hbox); have GW541 := zg3 HB GE534 GE535 GE540 hg; have GE541 := zg3 HB GE534 GE535 GE540 hg; have NB534_541 := zn BK534 hg; have NB541_534 := zo BK534 hg; have NB535_541 := zn BK535 hg; have NB541_535 := zo BK535 hg; have NB540_541 := zn BK540 hg; have NB541_540 := zo BK540 hg; replace BK534 := zb BK534 hb; replace BK535 := zb BK535 hb; replace BK540 := zb BK540 hb; replace HB := zA (below_step (zB3 HB GE534 GE535 GE540) hb); clear hb hbox hg; have hnb8 := NB540_534.out; have hnc8 := NB534_540.out; have hnb9 := NB540_535.out; have hnc9 := NB535_540.out; have hnb10 := NB540_541.out; have hnc10 := NB541_540.out; have hcz11_0 := zc0 BK540; have hcz11_1 := zc1 BK540; have hfz11_0 := blk_frozen BK540.out 0; have hfz11_1 := blk_frozen BK540.out 1; have hnb12 := NB541_534.out; have hnc12 := NB534_541.out; have hnb13 := NB541_535.out; have hnc13 := NB535_541.out; have hcz14_0 := zc0 BK541; have hcz14_1 := zc1 BK541; have hfz14_0 := blk_frozen BK541.out 0; have hfz14_1 := blk_frozen BK541.out 1))
 have n0_ : Aside0 (((((w7.setCell ⟨gb540, 0, none⟩ (.int .i64 t536)).setCell ⟨gb540, 1, none⟩ (.int .i64 t537)).setCell ⟨gb541, 0, none⟩ (.int .i64 t538)).setCell ⟨gb541, 1, none⟩ (.int .i64 t539)).heap[gb534]? = some (.cells #[.int .i64 0, .int .i64 0] 25 (0, 0))) := ⟨by (with_reducible repeat (first | refine blk_drewN ?_ _ | refine blk_drew ?_ | refine blk_alloc ?_ _)); refine blk_far ?_ NB534_541.out _; (with_reducible repeat (first | refine blk_drewN ?_ _ | refine blk_drew ?_ | refine blk_alloc ?_ _)); refine blk_far ?_ NB534_541.out _; (with_reducible repeat (first | refine blk_drewN ?_ _ | refine blk_drew ?_ | refine blk_alloc ?_ _)); refine blk_far ?_ NB534_540.out _; (with_reducible repeat (first | refine blk_drewN ?_ _ | refine blk_drew ?_ | refine blk_alloc ?_ _)); refine blk_far ?_ NB534_540.out _; (with_reducible repeat (first | refine blk_drewN ?_ _ | refine blk_drew ?_ | refine blk_alloc ?_ _)); exact BK534.out⟩
 have n1_ : Aside0 (((((w7.setCell ⟨gb540, 0, none⟩ (.int .i64 t536)).setCell ⟨gb540, 1, none⟩ (.int .i64 t537)).setCell ⟨gb541, 0, none⟩ (.int .i64 t538)).setCell ⟨gb541, 1, none⟩ (.int .i64 t539)).heap[gb535]? = some (.cells #[.int .i64 0, .int .i64 0] 33 (0, 0))) := ⟨by (with_reducible repeat (first | refine blk_drewN ?_ _ | refine blk_drew ?_ | refine blk_alloc ?_ _)); refine blk_far ?_ NB535_541.out _; (with_reducible repeat (first | refine blk_drewN ?_ _ | refine blk_drew ?_ | refine blk_alloc ?_ _)); refine blk_far ?_ NB535_541.out _; (with_reducible repeat (first | refine blk_drewN ?_ _ | refine blk_drew ?_ | refine blk_alloc ?_ _)); refine blk_far ?_ NB535_540.out _; (with_reducible repeat (first | refine blk_drewN ?_ _ | refine blk_drew ?_ | refine blk_alloc ?_ _)); refine blk_far ?_ NB535_540.out _; (with_reducible repeat (first | refine blk_drewN ?_ _ | refine blk_drew ?_ | refine blk_alloc ?_ _)); exact BK535.out⟩
 have n2_ : Aside0 (((((w7.setCell ⟨gb540, 0, none⟩ (.int .i64 t536)).setCell ⟨gb540, 1, none⟩ (.int .i64 t537)).setCell ⟨gb541, 0, none⟩ (.int .i64 t538)).setCell ⟨gb541, 1, none⟩ (.int .i64 t539)).heap[gb540]? = some (.cells #[.int .i64 t536, .int .i64 t537] 25 (0, 0))) := ⟨by (with_reducible repeat (first | refine blk_drewN ?_ _ | refine blk_drew ?_ | refine blk_alloc ?_ _)); refine blk_far ?_ NB540_541.out _; (with_reducible repeat (first | refine blk_drewN ?_ _ | refine blk_drew ?_ | refine blk_alloc ?_ _)); refine blk_far ?_ NB540_541.out _; (with_reducible repeat (first | refine blk_drewN ?_ _ | refine blk_drew ?_ | refine blk_alloc ?_ _)); refine blk_put (cs := #[.int .i64 t536, .int .i64 0]) ?_ 1 _ rfl; (with_reducible repeat (first | refine blk_drewN ?_ _ | refine blk_drew ?_ | refine blk_alloc ?_ _)); refine blk_put (cs := #[.int .i64 0, .int .i64 0]) ?_ 0 _ rfl; (with_reducible repeat (first | refine blk_drewN ?_ _ | refine blk_drew ?_ | refine blk_alloc ?_ _)); exact BK540.out⟩
 have n3_ : Aside0 (((((w7.setCell ⟨gb540, 0, none⟩ (.int .i64 t536)).setCell ⟨gb540, 1, none⟩ (.int .i64 t537)).setCell ⟨gb541, 0, none⟩ (.int .i64 t538)).setCell ⟨gb541, 1, none⟩ (.int .i64 t539)).heap[gb541]? = some (.cells #[.int .i64 t538, .int .i64 t539] 33 (0, 0))) := ⟨by (with_reducible repeat (first | refine blk_drewN ?_ _ | refine blk_drew ?_ | refine blk_alloc ?_ _)); refine blk_put (cs := #[.int .i64 t538, .int .i64 0]) ?_ 1 _ rfl; (with_reducible repeat (first | refine blk_drewN ?_ _ | refine blk_drew ?_ | refine blk_alloc ?_ _)); refine blk_put (cs := #[.int .i64 0, .int .i64 0]) ?_ 0 _ rfl; (with_reducible repeat (first | refine blk_drewN ?_ _ | refine blk_drew ?_ | refine blk_alloc ?_ _)); refine blk_far ?_ NB541_540.out _; (with_reducible repeat (first | refine blk_drewN ?_ _ | refine blk_drew ?_ | refine blk_alloc ?_ _)); refine blk_far ?_ NB541_540.out _; (with_reducible repeat (first | refine blk_drewN ?_ _ | refine blk_drew ?_ | refine blk_alloc ?_ _)); exact BK541.out⟩
 have n4_ : Aside0 (Below w.heap.size w ((((w7.setCell ⟨gb540, 0, none⟩ (.int .i64 t536)).setCell ⟨gb540, 1, none⟩ (.int .i64 t537)).setCell ⟨gb541, 0, none⟩ (.int .i64 t538)).setCell ⟨gb541, 1, none⟩ (.int .i64 t539))) := ⟨zB4 HB GE534 GE535 GE540 GE541⟩
 (try clear BK534)
 (try clear BK535)
 (try clear BK540)
 (try clear BK541)
 (try clear HB)
 generalize ((((w7.setCell ⟨gb540, 0, none⟩ (.int .i64 t536)).setCell ⟨gb540, 1, none⟩ (.int .i64 t537)).setCell ⟨gb541, 0, none⟩ (.int .i64 t538)).setCell ⟨gb541, 1, none⟩ (.int .i64 t539)) = w15 at n0_ n1_ n2_ n3_ n4_ ⊢
 have BK534 := n0_
 have BK535 := n1_
 have BK540 := n2_
 have BK541 := n3_
 have HB := n4_
 clear n0_ n1_ n2_ n3_ n4_
 have n0_ := zA (blk_drew BK534.out)
 have n1_ := zA (blk_drew BK535.out)
 have n2_ := zA (blk_drew BK540.out)
 have n3_ := zA (blk_drew BK541.out)
 have n4_ := zA (below_drew1 HB.out)
 clear BK534
 clear BK535
 clear BK540
 clear BK541
 clear HB
 have BK534 := n0_
 have BK535 := n1_
 have BK540 := n2_
 have BK541 := n3_
 have HB := n4_
 clear n0_ n1_ n2_ n3_ n4_
 refine start_ (n := 4) (S := fun w' => w'.cell? ⟨gb540, 0, none⟩ = some (.int .i64 t536) ∧ w'.cell? ⟨gb540, 1, none⟩ = some (.int .i64 t537) ∧ w'.cell? ⟨gb541, 0, none⟩ = some (.int .i64 t538) ∧ w'.cell? ⟨gb541, 1, none⟩ = some (.int .i64 t539)) (ds := []) #[false, false, false, false] (by kernel_rfl) rfl rfl ⟨(blk_cell BK540.out 0).trans rfl, (blk_cell BK540.out 1).trans rfl, (blk_cell BK541.out 0).trans rfl, (blk_cell BK541.out 1).trans rfl⟩ (fun hHeld => ?_)
 generalize w15.drew = w16 at BK534 BK535 BK540 BK541 HB hHeld ⊢
 refine take_ (i := 0) (N := some 11) (v := ?_) (a' := ?_) #[true, false, false, false] rfl rfl (by kernel_rfl) (fun _ _ _ h => h) (Or.inl ⟨by rfl, ?_⟩) hHeld ?_ ?_
 rotate_left
 ·rintro w' ⟨s0, s1, s2, s3⟩
  go_simp
  with_reducible rfl
 rotate_left
 ·exact zU
 refine take_ (i := 1) (N := some 12) (v := ?_) (a' := ?_) #[true, true, false, false] rfl rfl (by kernel_rfl) (fun _ _ _ h => h) (Or.inl ⟨by rfl, ?_⟩) hHeld ?_ ?_
 rotate_left
 ·rintro w' ⟨s0, s1, s2, s3⟩
  go_simp
  with_reducible rfl
 rotate_left
 ·exact zU
 refine one_ (i := 2) (N := none) #[true, true, true, false] rfl rfl (by kernel_rfl) (by decide) (fun K hK => ?_)
 have hs17 : w16.cell? ⟨gb534, 0, none⟩ = some (.int .i64 0) := (blk_cell BK534.out 0).trans rfl
 have hfs17 := blk_frozen BK534.out 0
 have hns17_1 := NB535_534.out
 have hns17_2 := NB540_534.out
 have hns17_3 := NB541_534.out
 have hms17_1 := NB534_535.out
 have hms17_2 := NB534_540.out
 have hms17_3 := NB534_541.out
 have hs18 : w16.cell? ⟨gb534, 1, none⟩ = some (.int .i64 0) := (blk_cell BK534.out 1).trans rfl
 have hfs18 := blk_frozen BK534.out 1
 have hns18_1 := NB535_534.out
 have hns18_2 := NB540_534.out
 have hns18_3 := NB541_534.out
 have hms18_1 := NB534_535.out
 have hms18_2 := NB534_540.out
 have hms18_3 := NB534_541.out
 refine skip_ (w1 := ?_) (by rfl) rfl ?_ ?_
 rotate_left
 ·go_simp
  rfl
 refine hK.out _ _ ⟨((cell_far (p := ⟨gb534, _, none⟩) NB540_534.out _).trans (((cell_far (p := ⟨gb534, _, none⟩) NB540_534.out _).trans (hHeld.1)))), ((cell_far (p := ⟨gb534, _, none⟩) NB540_534.out _).trans (((cell_far (p := ⟨gb534, _, none⟩) NB540_534.out _).trans (hHeld.2.1)))), ((cell_far (p := ⟨gb534, _, none⟩) NB541_534.out _).trans (((cell_far (p := ⟨gb534, _, none⟩) NB541_534.out _).trans (hHeld.2.2.1)))), ((cell_far (p := ⟨gb534, _, none⟩) NB541_534.out _).trans (((cell_far (p := ⟨gb534, _, none⟩) NB541_534.out _).trans (hHeld.2.2.2))))⟩ (fun hHeld => ?_)
 clear hK K
 refine one_ (i := 3) (N := none) #[true, true, true, true] rfl rfl (by kernel_rfl) (by decide) (fun K hK => ?_)
 have hs19 : w16.cell? ⟨gb535, 0, none⟩ = some (.int .i64 0) := (blk_cell BK535.out 0).trans rfl
 have hfs19 := blk_frozen BK535.out 0
 have hns19_0 := NB534_535.out
 have hns19_2 := NB540_535.out
 have hns19_3 := NB541_535.out
 have hms19_0 := NB535_534.out
 have hms19_2 := NB535_540.out
 have hms19_3 := NB535_541.out
 have hs20 : w16.cell? ⟨gb535, 1, none⟩ = some (.int .i64 0) := (blk_cell BK535.out 1).trans rfl
 have hfs20 := blk_frozen BK535.out 1
 have hns20_0 := NB534_535.out
 have hns20_2 := NB540_535.out
 have hns20_3 := NB541_535.out
 have hms20_0 := NB535_534.out
 have hms20_2 := NB535_540.out
 have hms20_3 := NB535_541.out
 refine skip_ (w1 := ?_) (by rfl) rfl ?_ ?_
 rotate_left
 ·go_simp
  rfl
 refine hK.out _ _ ⟨((cell_far (p := ⟨gb535, _, none⟩) NB540_535.out _).trans (((cell_far (p := ⟨gb535, _, none⟩) NB540_535.out _).trans (hHeld.1)))), ((cell_far (p := ⟨gb535, _, none⟩) NB540_535.out _).trans (((cell_far (p := ⟨gb535, _, none⟩) NB540_535.out _).trans (hHeld.2.1)))), ((cell_far (p := ⟨gb535, _, none⟩) NB541_535.out _).trans (((cell_far (p := ⟨gb535, _, none⟩) NB541_535.out _).trans (hHeld.2.2.1)))), ((cell_far (p := ⟨gb535, _, none⟩) NB541_535.out _).trans (((cell_far (p := ⟨gb535, _, none⟩) NB541_535.out _).trans (hHeld.2.2.2))))⟩ (fun hHeld => ?_)
 clear hK K
 refine done_ (by kernel_rfl) ?_
 try go_wp2
 refine bodyPost_ret (results_cc rfl _ _ gb534 gb535 25 33 #[.int .i64 t536, .int .i64 t537] #[.int .i64 t538, .int .i64 t539] (0, 0) (0, 0) _ _ rfl (by (with_reducible repeat (first | refine blk_drewN ?_ _ | refine blk_drew ?_ | refine blk_alloc ?_ _)); refine blk_far ?_ NB534_535.out _; (with_reducible repeat (first | refine blk_drewN ?_ _ | refine blk_drew ?_ | refine blk_alloc ?_ _)); refine blk_far ?_ NB534_535.out _; (with_reducible repeat (first | refine blk_drewN ?_ _ | refine blk_drew ?_ | refine blk_alloc ?_ _)); refine blk_put (cs := #[.int .i64 t536, .int .i64 0]) ?_ 1 _ rfl; (with_reducible repeat (first | refine blk_drewN ?_ _ | refine blk_drew ?_ | refine blk_alloc ?_ _)); refine blk_put (cs := #[.int .i64 0, .int .i64 0]) ?_ 0 _ rfl; (with_reducible repeat (first | refine blk_drewN ?_ _ | refine blk_drew ?_ | refine blk_alloc ?_ _)); exact BK534.out) Try.underlying25 rfl (by kernel_rfl) rfl (by (with_reducible repeat (first | refine blk_drewN ?_ _ | refine blk_drew ?_ | refine blk_alloc ?_ _)); refine blk_put (cs := #[.int .i64 t538, .int .i64 0]) ?_ 1 _ rfl; (with_reducible repeat (first | refine blk_drewN ?_ _ | refine blk_drew ?_ | refine blk_alloc ?_ _)); refine blk_put (cs := #[.int .i64 0, .int .i64 0]) ?_ 0 _ rfl; (with_reducible repeat (first | refine blk_drewN ?_ _ | refine blk_drew ?_ | refine blk_alloc ?_ _)); refine blk_far ?_ NB535_534.out _; (with_reducible repeat (first | refine blk_drewN ?_ _ | refine blk_drew ?_ | refine blk_alloc ?_ _)); refine blk_far ?_ NB535_534.out _; (with_reducible repeat (first | refine blk_drewN ?_ _ | refine blk_drew ?_ | refine blk_alloc ?_ _)); exact BK535.out) Try.underlying33 rfl (by kernel_rfl)) rfl ?_
 exact ⟨zE, zB4 HB GE534 GE535 GE540 GE541⟩

/-! ### spec_TermHolds: function 31 -/
def spec_TermHolds.f (a0_0 : Int) (a0_1 : Int) (a1 : Int) : Option (Bool) := (spec_IsTerm.f 5 a0_0 a0_1).bind fun t600 => (if t600 = true then ((spec_l1In.f a1 0 31).bind fun t601 => (if t601 = true then (some ((Go.bits .and .i64 a1 a0_0) == a0_1)) else (some false))) else (some false))
set_option maxHeartbeats 8000000 in
set_option maxRecDepth 100000 in
theorem spec_TermHolds.calls (a0_0 : Int) (a0_1 : Int) (a1 : Int) (r : Bool) (w : World) (h : spec_TermHolds.f a0_0 a0_1 a1 = some r) :
  Calls Try.prog 31 #[.agg #[.int .i64 a0_0, .int .i64 a0_1], .int .i64 a1] w fun e w' => e = .returned (.bool r) ∧ Below w.heap.size w w' := by
 have hu33 := Try.underlying33
 have HB := zA (Below.refl w.heap.size w)
 have H := h
 unfold spec_TermHolds.f at H
 clear h
 replace H := Option.bind_eq_some_iff.mp H
 obtain ⟨t600, A30, H⟩ := H
 replace H : (if t600 = true then ((spec_l1In.f a1 0 31).bind fun t601 => (if t601 = true then (some ((Go.bits .and .i64 a1 a0_0) == a0_1)) else (some false))) else (some false)) = some r := H
 have A3 := zA A30
 clear A30
 by_cases c4 : t600 = true
 ·subst c4
  have H1 : ((spec_l1In.f a1 0 31).bind fun t601 => (if t601 = true then (some ((Go.bits .and .i64 a1 a0_0) == a0_1)) else (some false))) = some r := by rw [if_pos rfl] at H; exact H
  clear H
  have H := H1
  clear H1
  replace H := Option.bind_eq_some_iff.mp H
  obtain ⟨t601, A50, H⟩ := H
  replace H : (if t601 = true then (some ((Go.bits .and .i64 a1 a0_0) == a0_1)) else (some false)) = some r := H
  have A5 := zA A50
  clear A50
  by_cases c6 : t601 = true
  ·subst c6
   have H1 : (some ((Go.bits .and .i64 a1 a0_0) == a0_1)) = some r := by rw [if_pos rfl] at H; exact H
   clear H
   have H := H1
   clear H1
   obtain rfl := Option.some.inj H
   go_enter Try.func31, Try.ntmps31
   go_wp2_with (first | ((with_reducible refine gate_dst (N := 2) rfl ?_); refine box_event ?hg (N := 2) ?hd (cs := #[.int .i64 a0_0, .int .i64 a0_1]) (t := 33) ?hr ?_; (case hd => rfl); (case hg => rfl); (case hr => exact zH); intro gb599 hg w7 hbox hb; have BK599 := zA (hbox); have GW599 := zg HB hg; have GE599 := zg HB hg; replace HB := zA (below_step (zB HB) hb); clear hb hbox hg; have hcz8_0 := zc0 BK599; have hcz8_1 := zc1 BK599; have hfz8_0 := blk_frozen BK599.out 0; have hfz8_1 := blk_frozen BK599.out 1) | ((with_reducible refine gate_callee (f := 20) rfl ?_); refine goesL_ (some 6) rfl rfl Try.func20 (by kernel_rfl) rfl #[.int .i64 5, .agg #[.int .i64 a0_0, .int .i64 a0_1]] rfl zM ?_; (with_reducible refine (spec_IsTerm.calls 5 a0_0 a0_1 true _ A3.out).mono ?_); rintro e w9 ⟨rfl, hb⟩; refine ⟨_, rfl, ?_⟩; replace BK599 := zb BK599 hb; replace HB := zA (below_step (zB1 HB GE599) hb); (try clear hb); (try clear hb2); (try clear hk); (try clear hi)) | (go_at_call 49; (with_reducible refine (spec_l1In.calls a1 0 31 true _ A5.out).mono ?_); rintro e w' ⟨rfl, ⟨nd, rfl⟩⟩; have hcz10_0 := zc0 BK599; have hcz10_1 := zc1 BK599; have hfz10_0 := blk_frozen BK599.out 0; have hfz10_1 := blk_frozen BK599.out 1))
   go_ret
   exact ⟨zE, zB1 HB GE599⟩
  ·replace c6 := Bool.eq_false_iff.mpr c6
   subst c6
   have H1 : (some false) = some r := by rw [if_neg (show ¬ (false = true) by decide)] at H; exact H
   clear H
   have H := H1
   clear H1
   obtain rfl := Option.some.inj H
   go_enter Try.func31, Try.ntmps31
   go_wp2_with (first | ((with_reducible refine gate_dst (N := 2) rfl ?_); refine box_event ?hg (N := 2) ?hd (cs := #[.int .i64 a0_0, .int .i64 a0_1]) (t := 33) ?hr ?_; (case hd => rfl); (case hg => rfl); (case hr => exact zH); intro gb599 hg w11 hbox hb; have BK599 := zA (hbox); have GW599 := zg HB hg; have GE599 := zg HB hg; replace HB := zA (below_step (zB HB) hb); clear hb hbox hg; have hcz12_0 := zc0 BK599; have hcz12_1 := zc1 BK599; have hfz12_0 := blk_frozen BK599.out 0; have hfz12_1 := blk_frozen BK599.out 1) | ((with_reducible refine gate_callee (f := 20) rfl ?_); refine goesL_ (some 6) rfl rfl Try.func20 (by kernel_rfl) rfl #[.int .i64 5, .agg #[.int .i64 a0_0, .int .i64 a0_1]] rfl zM ?_; (with_reducible refine (spec_IsTerm.calls 5 a0_0 a0_1 true _ A3.out).mono ?_); rintro e w13 ⟨rfl, hb⟩; refine ⟨_, rfl, ?_⟩; replace BK599 := zb BK599 hb; replace HB := zA (below_step (zB1 HB GE599) hb); (try clear hb); (try clear hb2); (try clear hk); (try clear hi)) | (go_at_call 49; (with_reducible refine (spec_l1In.calls a1 0 31 false _ A5.out).mono ?_); rintro e w' ⟨rfl, ⟨nd, rfl⟩⟩))
   go_ret
   exact ⟨zE, zB1 HB GE599⟩
 ·replace c4 := Bool.eq_false_iff.mpr c4
  subst c4
  have H1 : (some false) = some r := by rw [if_neg (show ¬ (false = true) by decide)] at H; exact H
  clear H
  have H := H1
  clear H1
  obtain rfl := Option.some.inj H
  go_enter Try.func31, Try.ntmps31
  go_wp2_with (first | ((with_reducible refine gate_dst (N := 2) rfl ?_); refine box_event ?hg (N := 2) ?hd (cs := #[.int .i64 a0_0, .int .i64 a0_1]) (t := 33) ?hr ?_; (case hd => rfl); (case hg => rfl); (case hr => exact zH); intro gb599 hg w14 hbox hb; have BK599 := zA (hbox); have GW599 := zg HB hg; have GE599 := zg HB hg; replace HB := zA (below_step (zB HB) hb); clear hb hbox hg; have hcz15_0 := zc0 BK599; have hcz15_1 := zc1 BK599; have hfz15_0 := blk_frozen BK599.out 0; have hfz15_1 := blk_frozen BK599.out 1) | ((with_reducible refine gate_callee (f := 20) rfl ?_); refine goesL_ (some 6) rfl rfl Try.func20 (by kernel_rfl) rfl #[.int .i64 5, .agg #[.int .i64 a0_0, .int .i64 a0_1]] rfl zM ?_; (with_reducible refine (spec_IsTerm.calls 5 a0_0 a0_1 false _ A3.out).mono ?_); rintro e w16 ⟨rfl, hb⟩; refine ⟨_, rfl, ?_⟩; replace BK599 := zb BK599 hb; replace HB := zA (below_step (zB1 HB GE599) hb); (try clear hb); (try clear hb2); (try clear hk); (try clear hi)))
  go_ret
  exact ⟨zE, zB1 HB GE599⟩

end Go.Proofs.Ytfiejicdlaknnaa.P
