/- The functions that this seat's laws reach, each as a plain Lean function, and the walk of each; written by a program over the kit's print. No conditions but those that stand in the theorems. -/
import Derived.Test.YtfiejicdlaknnaaK2
import Derived.Test.YtfiejicdlaknnaaPa0
import Derived.Test.YtfiejicdlaknnaaK3
import Derived.Test.YtfiejicdlaknnaaPx5
namespace Go.Proofs.Ytfiejicdlaknnaa.P
open Go.RowKit Go.Proofs.YtfiejicdlaknnaaW.PrintWords Go.Proofs.YtfiejicdlaknnaaW.PrintLast Go.Proofs.YtfiejicdlaknnaaW.PrintMore
attribute [local go_sem] max2_int min2_int max_two min_two max_three min_three max_four min_four   -- for this text's walks alone
set_option linter.unusedVariables false
set_option linter.unusedSimpArgs false

attribute [local go_sem] fld25_0 fld25_1
/-! ### spec_l2Draw: function 61 -/
mutual
def spec_l2Draw.l0 : Nat → Int → Int → Int → List Int → Int → Int → Option (Int × Int × Int × Int)
 | 0, _, _, _, _, _, _ => none
 | k + 1, x1, x5, x6, x1000, x1001, x1002 => if 0 ≤ x1 then (if x6 < (shl .i64 1 x1) then ((spec_l2Count.f k x6).bind fun t131 => (if (wrap64 (2 * t131)) > x1 then (if 0 ≤ x6 then (spec_l2Draw.l0 k x1 (Go.bits .or .i64 x5 (shl .i64 1 x6)) (wrap64 (x6 + 1)) x1000 x1001 x1002) else (none)) else (spec_l2Draw.l0 k x1 x5 (wrap64 (x6 + 1)) x1000 x1001 x1002))) else (if x1 = 0 then ((spec_l2Full.f x1).bind fun t132 => (some (x1, Go.bits .and .i64 (Go.bits .and .i64 x5 1) t132, x1001, x1002))) else ((spec_l2Full.f x1).bind fun t133 => (some (x1, Go.bits .and .i64 x5 t133, x1001, x1002))))) else (none)
def spec_l2Draw.l1 : Nat → Int → Int → Int → List Int → Int → Int → Option (Int × Int × Int × Int)
 | 0, _, _, _, _, _, _ => none
 | k + 1, x1, x5, x7, x1000, x1001, x1002 => if 0 ≤ x1 then (if x7 < (shl .i64 1 x1) then ((spec_l2Count.f k x7).bind fun t134 => (if (Int.tmod t134 2) = 1 then (if 0 ≤ x7 then (spec_l2Draw.l1 k x1 (Go.bits .or .i64 x5 (shl .i64 1 x7)) (wrap64 (x7 + 1)) x1000 x1001 x1002) else (none)) else (spec_l2Draw.l1 k x1 x5 (wrap64 (x7 + 1)) x1000 x1001 x1002))) else (if x1 = 0 then ((spec_l2Full.f x1).bind fun t135 => (some (x1, Go.bits .and .i64 (Go.bits .and .i64 x5 1) t135, x1001, x1002))) else ((spec_l2Full.f x1).bind fun t136 => (some (x1, Go.bits .and .i64 x5 t136, x1001, x1002))))) else (none)
def spec_l2Draw.l2 : Nat → Int → Int → Int → Int → List Int → Int → Int → Option (Int × Int × Int × Int)
 | 0, _, _, _, _, _, _, _ => none
 | k + 1, x1, x5, x8, x9, x1000, x1001, x1002 => if 0 ≤ x1 then (if x9 < (shl .i64 1 x1) then (if (Go.bits .and .i64 x9 x8) = x8 then (if 0 ≤ x9 then (spec_l2Draw.l2 k x1 (Go.bits .or .i64 x5 (shl .i64 1 x9)) x8 (wrap64 (x9 + 1)) x1000 x1001 x1002) else (none)) else (spec_l2Draw.l2 k x1 x5 x8 (wrap64 (x9 + 1)) x1000 x1001 x1002)) else (if x1 = 0 then ((spec_l2Full.f x1).bind fun t140 => (some (x1, Go.bits .and .i64 (Go.bits .and .i64 x5 1) t140, x1001, x1002))) else ((spec_l2Full.f x1).bind fun t141 => (some (x1, Go.bits .and .i64 x5 t141, x1001, x1002))))) else (none)
def spec_l2Draw.l3 : Nat → Int → Int → Int → List Int → Int → Int → Option (Int × Int × Int × Int)
 | 0, _, _, _, _, _, _ => none
 | k + 1, x1, x5, x10, x1000, x1001, x1002 => if 0 ≤ x1 then (if x10 < (shl .i64 1 x1) then ((spec_l1Below.f x1000 x1001 x1002 2).bind fun bt142 => (if 0 ≤ x10 then (spec_l2Draw.l3 k x1 (Go.bits .or .i64 x5 (shl .i64 bt142.1 x10)) (wrap64 (x10 + 1)) x1000 bt142.2.1 bt142.2.2) else (none))) else (if x1 = 0 then ((spec_l2Full.f x1).bind fun t145 => (some (x1, Go.bits .and .i64 (Go.bits .and .i64 x5 1) t145, x1001, x1002))) else ((spec_l2Full.f x1).bind fun t146 => (some (x1, Go.bits .and .i64 x5 t146, x1001, x1002))))) else (none)
end
def spec_l2Draw.f (k : Nat) (s0_0 : List Int) (s0_1 : Int) (s0_2 : Int) (a1 : Int) : Option (Int × Int × Int × Int) := (spec_l1Below.f s0_0 s0_1 s0_2 6).bind fun bt122 => (if bt122.1 = 0 then ((spec_l1Below.f s0_0 bt122.2.1 bt122.2.2 (mx 1 a1)).bind fun bt125 => ((spec_l2Variable.f k a1 bt125.1).bind fun t128 => (if a1 = 0 then ((spec_l2Full.f a1).bind fun t129 => (some (a1, Go.bits .and .i64 (Go.bits .and .i64 t128 1) t129, bt125.2.1, bt125.2.2))) else ((spec_l2Full.f a1).bind fun t130 => (some (a1, Go.bits .and .i64 t128 t130, bt125.2.1, bt125.2.2)))))) else (if bt122.1 = 1 then (spec_l2Draw.l0 k a1 0 0 s0_0 bt122.2.1 bt122.2.2) else (if bt122.1 = 2 then (spec_l2Draw.l1 k a1 0 0 s0_0 bt122.2.1 bt122.2.2) else (if bt122.1 = 3 then (if 0 ≤ a1 then ((spec_l1Below.f s0_0 bt122.2.1 bt122.2.2 (shl .i64 1 a1)).bind fun bt137 => (spec_l2Draw.l2 k a1 0 bt137.1 0 s0_0 bt137.2.1 bt137.2.2)) else (none)) else (spec_l2Draw.l3 k a1 0 0 s0_0 bt122.2.1 bt122.2.2)))))
theorem spec_l2Draw.mono_l : ∀ k, (∀ y0 y1 y2 y3 y4 y5, LeO (spec_l2Draw.l0 k y0 y1 y2 y3 y4 y5) (spec_l2Draw.l0 (k + 1) y0 y1 y2 y3 y4 y5)) ∧ (∀ y0 y1 y2 y3 y4 y5, LeO (spec_l2Draw.l1 k y0 y1 y2 y3 y4 y5) (spec_l2Draw.l1 (k + 1) y0 y1 y2 y3 y4 y5)) ∧ (∀ y0 y1 y2 y3 y4 y5 y6, LeO (spec_l2Draw.l2 k y0 y1 y2 y3 y4 y5 y6) (spec_l2Draw.l2 (k + 1) y0 y1 y2 y3 y4 y5 y6)) ∧ (∀ y0 y1 y2 y3 y4 y5, LeO (spec_l2Draw.l3 k y0 y1 y2 y3 y4 y5) (spec_l2Draw.l3 (k + 1) y0 y1 y2 y3 y4 y5))
 | 0 => ⟨fun _ _ _ _ _ _ r h => by simp [spec_l2Draw.l0] at h, fun _ _ _ _ _ _ r h => by simp [spec_l2Draw.l1] at h, fun _ _ _ _ _ _ _ r h => by simp [spec_l2Draw.l2] at h, fun _ _ _ _ _ _ r h => by simp [spec_l2Draw.l3] at h⟩
 | k + 1 => by
  obtain ⟨ih0, ih1, ih2, ih3⟩ := spec_l2Draw.mono_l k
  refine ⟨?_, ?_, ?_, ?_⟩
  ·intro y0 y1 y2 y3 y4 y5
   unfold spec_l2Draw.l0
   repeat' first
   | (with_reducible exact ih0 _ _ _ _ _ _)
   | (with_reducible exact ih1 _ _ _ _ _ _)
   | (with_reducible exact ih2 _ _ _ _ _ _ _)
   | (with_reducible exact ih3 _ _ _ _ _ _)
   | (with_reducible exact spec_l2Count.mono _ _)
   | (with_reducible exact spec_l2Variable.mono _ _ _)
   | (with_reducible exact LeO.refl _)
   | (with_reducible exact LeO.none _)
   | (with_reducible refine LeO.ite ?_ ?_)
   | (with_reducible refine LeO.bind ?_ (fun _ => ?_))
   | exact ih0 _ _ _ _ _ _
   | exact ih1 _ _ _ _ _ _
   | exact ih2 _ _ _ _ _ _ _
   | exact ih3 _ _ _ _ _ _
   | exact spec_l2Count.mono _ _
   | exact spec_l2Variable.mono _ _ _
   | exact LeO.none _
   | refine LeO.ite ?_ ?_
   | refine LeO.bind ?_ (fun _ => ?_)
  ·intro y0 y1 y2 y3 y4 y5
   unfold spec_l2Draw.l1
   repeat' first
   | (with_reducible exact ih0 _ _ _ _ _ _)
   | (with_reducible exact ih1 _ _ _ _ _ _)
   | (with_reducible exact ih2 _ _ _ _ _ _ _)
   | (with_reducible exact ih3 _ _ _ _ _ _)
   | (with_reducible exact spec_l2Count.mono _ _)
   | (with_reducible exact spec_l2Variable.mono _ _ _)
   | (with_reducible exact LeO.refl _)
   | (with_reducible exact LeO.none _)
   | (with_reducible refine LeO.ite ?_ ?_)
   | (with_reducible refine LeO.bind ?_ (fun _ => ?_))
   | exact ih0 _ _ _ _ _ _
   | exact ih1 _ _ _ _ _ _
   | exact ih2 _ _ _ _ _ _ _
   | exact ih3 _ _ _ _ _ _
   | exact spec_l2Count.mono _ _
   | exact spec_l2Variable.mono _ _ _
   | exact LeO.none _
   | refine LeO.ite ?_ ?_
   | refine LeO.bind ?_ (fun _ => ?_)
  ·intro y0 y1 y2 y3 y4 y5 y6
   unfold spec_l2Draw.l2
   repeat' first
   | (with_reducible exact ih0 _ _ _ _ _ _)
   | (with_reducible exact ih1 _ _ _ _ _ _)
   | (with_reducible exact ih2 _ _ _ _ _ _ _)
   | (with_reducible exact ih3 _ _ _ _ _ _)
   | (with_reducible exact spec_l2Count.mono _ _)
   | (with_reducible exact spec_l2Variable.mono _ _ _)
   | (with_reducible exact LeO.refl _)
   | (with_reducible exact LeO.none _)
   | (with_reducible refine LeO.ite ?_ ?_)
   | (with_reducible refine LeO.bind ?_ (fun _ => ?_))
   | exact ih0 _ _ _ _ _ _
   | exact ih1 _ _ _ _ _ _
   | exact ih2 _ _ _ _ _ _ _
   | exact ih3 _ _ _ _ _ _
   | exact spec_l2Count.mono _ _
   | exact spec_l2Variable.mono _ _ _
   | exact LeO.none _
   | refine LeO.ite ?_ ?_
   | refine LeO.bind ?_ (fun _ => ?_)
  ·intro y0 y1 y2 y3 y4 y5
   unfold spec_l2Draw.l3
   repeat' first
   | (with_reducible exact ih0 _ _ _ _ _ _)
   | (with_reducible exact ih1 _ _ _ _ _ _)
   | (with_reducible exact ih2 _ _ _ _ _ _ _)
   | (with_reducible exact ih3 _ _ _ _ _ _)
   | (with_reducible exact spec_l2Count.mono _ _)
   | (with_reducible exact spec_l2Variable.mono _ _ _)
   | (with_reducible exact LeO.refl _)
   | (with_reducible exact LeO.none _)
   | (with_reducible refine LeO.ite ?_ ?_)
   | (with_reducible refine LeO.bind ?_ (fun _ => ?_))
   | exact ih0 _ _ _ _ _ _
   | exact ih1 _ _ _ _ _ _
   | exact ih2 _ _ _ _ _ _ _
   | exact ih3 _ _ _ _ _ _
   | exact spec_l2Count.mono _ _
   | exact spec_l2Variable.mono _ _ _
   | exact LeO.none _
   | refine LeO.ite ?_ ?_
   | refine LeO.bind ?_ (fun _ => ?_)
theorem spec_l2Draw.mono : ∀ a0 a1 a2 a3 k, LeO (spec_l2Draw.f k a0 a1 a2 a3) (spec_l2Draw.f (k + 1) a0 a1 a2 a3) := by
 intro a0 a1 a2 a3 k
 obtain ⟨ih0, ih1, ih2, ih3⟩ := spec_l2Draw.mono_l k
 unfold spec_l2Draw.f
 repeat' first
   | (with_reducible exact ih0 _ _ _ _ _ _)
   | (with_reducible exact ih1 _ _ _ _ _ _)
   | (with_reducible exact ih2 _ _ _ _ _ _ _)
   | (with_reducible exact ih3 _ _ _ _ _ _)
   | (with_reducible exact spec_l2Count.mono _ _)
   | (with_reducible exact spec_l2Variable.mono _ _ _)
   | (with_reducible exact LeO.refl _)
   | (with_reducible exact LeO.none _)
   | (with_reducible refine LeO.ite ?_ ?_)
   | (with_reducible refine LeO.bind ?_ (fun _ => ?_))
   | exact ih0 _ _ _ _ _ _
   | exact ih1 _ _ _ _ _ _
   | exact ih2 _ _ _ _ _ _ _
   | exact ih3 _ _ _ _ _ _
   | exact spec_l2Count.mono _ _
   | exact spec_l2Variable.mono _ _ _
   | exact LeO.none _
   | refine LeO.ite ?_ ?_
   | refine LeO.bind ?_ (fun _ => ?_)
set_option maxHeartbeats 8000000 in
set_option maxRecDepth 100000 in
theorem spec_l2Draw.calls (k : Nat) (g : Nat) (s0_0 : List Int) (s0_1 : Int) (s0_2 : Int) (a1 : Int) (r1 : Int) (r2 : Int) (r3 : Int) (r4 : Int) (w0 w : World) (hI : IsS77 w0 w g s0_0 s0_1 s0_2) (hB : Below w0.heap.size w0 w) (h : spec_l2Draw.f k s0_0 s0_1 s0_2 a1 = some (r1, r2, r3, r4)) :
  Calls Try.prog 61 #[.pointer (some ⟨g, 0, none⟩), .int .i64 a1] w fun e w' => e = .returned (.agg #[.int .i64 r1, .int .i64 r2]) ∧ IsS77 w0 w' g s0_0 r3 r4 ∧ Below w0.heap.size w0 w' ∧ KeepBut w w' g none := by
 have hu25 := Try.underlying25
 have HI0 := zA hI
 have HK := zA (KeepBut.refl w g none)
 have HL := zA hB.size
 clear hI
 have HW0 := zA hB.size
 have HB := zA hB
 clear hB
 have H := h
 unfold spec_l2Draw.f at H
 clear h
 replace H := Option.bind_eq_some_iff.mp H
 obtain ⟨⟨t122, t123, t124⟩, A30, H⟩ := H
 replace H : (if t122 = 0 then ((spec_l1Below.f s0_0 t123 t124 (mx 1 a1)).bind fun bt125 => ((spec_l2Variable.f k a1 bt125.1).bind fun t128 => (if a1 = 0 then ((spec_l2Full.f a1).bind fun t129 => (some (a1, Go.bits .and .i64 (Go.bits .and .i64 t128 1) t129, bt125.2.1, bt125.2.2))) else ((spec_l2Full.f a1).bind fun t130 => (some (a1, Go.bits .and .i64 t128 t130, bt125.2.1, bt125.2.2)))))) else (if t122 = 1 then (spec_l2Draw.l0 k a1 0 0 s0_0 t123 t124) else (if t122 = 2 then (spec_l2Draw.l1 k a1 0 0 s0_0 t123 t124) else (if t122 = 3 then (if 0 ≤ a1 then ((spec_l1Below.f s0_0 t123 t124 (shl .i64 1 a1)).bind fun bt137 => (spec_l2Draw.l2 k a1 0 bt137.1 0 s0_0 bt137.2.1 bt137.2.2)) else (none)) else (spec_l2Draw.l3 k a1 0 0 s0_0 t123 t124))))) = some (r1, r2, r3, r4) := H
 have A3 := zA A30
 clear A30
 by_cases c4 : t122 = 0
 ·rw [if_pos c4] at H
  have c4b0 : (t122 == 0) = true := beq_iff_eq.mpr c4
  have c4b1 : (t122 != 0) = false := bne_eq_false_iff_eq.mpr c4
  clear c4
  obtain ⟨ji5, hji5⟩ : ∃ j_ : Int, (mx 1 a1) = j_ := ⟨_, rfl⟩
  replace H : ((spec_l1Below.f s0_0 t123 t124 (ji5)).bind fun bt125 => ((spec_l2Variable.f k a1 bt125.1).bind fun t128 => (if a1 = 0 then ((spec_l2Full.f a1).bind fun t129 => (some (a1, Go.bits .and .i64 (Go.bits .and .i64 t128 1) t129, bt125.2.1, bt125.2.2))) else ((spec_l2Full.f a1).bind fun t130 => (some (a1, Go.bits .and .i64 t128 t130, bt125.2.1, bt125.2.2)))))) = some (r1, r2, r3, r4) := by first | (rw [hji5] at H; exact H) | (simp only [hji5] at H ⊢; exact H)
  (try rw [hji5] at A3)
  (try (have hji5l : 1 ≤ ji5 := by (rw [← hji5]; unfold mx; (repeat' split) <;> omega)))
  (try (have hji5m : 0 ≤ ji5 := by omega))
  have hji5_ : (if 1 < a1 then a1 else 1) = ji5 := hji5
  replace H := Option.bind_eq_some_iff.mp H
  obtain ⟨⟨t125, t126, t127⟩, A60, H⟩ := H
  have A6 := zA A60
  clear A60
  replace H := Option.bind_eq_some_iff.mp H
  obtain ⟨t128, A70, H⟩ := H
  replace H : (if a1 = 0 then ((spec_l2Full.f a1).bind fun t129 => (some (a1, Go.bits .and .i64 (Go.bits .and .i64 t128 1) t129, t126, t127))) else ((spec_l2Full.f a1).bind fun t130 => (some (a1, Go.bits .and .i64 t128 t130, t126, t127)))) = some (r1, r2, r3, r4) := H
  have A7 := zA A70
  clear A70
  by_cases c8 : a1 = 0
  ·rw [if_pos c8] at H
   have c8b0 : (a1 == 0) = true := beq_iff_eq.mpr c8
   have c8b1 : (a1 != 0) = false := bne_eq_false_iff_eq.mpr c8
   clear c8
   replace H := Option.bind_eq_some_iff.mp H
   obtain ⟨t129, A90, H⟩ := H
   replace H : (some (a1, Go.bits .and .i64 (Go.bits .and .i64 t128 1) t129, t126, t127)) = some (r1, r2, r3, r4) := H
   have A9 := zA A90
   clear A90
   simp only [Option.some.injEq, Prod.mk.injEq] at H
   obtain ⟨rfl, rfl, rfl, rfl⟩ := H
   go_enter Try.func61, Try.ntmps61
   go_wp2_with (first | ((with_reducible refine gate_dst (N := 4) rfl ?_); refine box_event ?hg (N := 4) ?hd (cs := #[.int .i64 0, .int .i64 0]) (t := 25) ?hr ?_; (case hd => rfl); (case hg => rfl); (case hr => exact zH); intro gb121 hg w10 hbox hb; have BK121 := zA (hbox); have GW121 := zA ((by rw [hg]; exact (keep_size (w := w) (g := g) (row := none) (zK HK)) : w.heap.size ≤ gb121)); have GE121 := zA ((Nat.le_trans HW0.out (by rw [hg]; exact (keep_size (w := w) (g := g) (row := none) (zK HK)) : w.heap.size ≤ gb121) : w0.heap.size ≤ gb121)); have NB0_121 := zA ((by rw [hg]; exact Nat.ne_of_lt (IsS77.lt (show IsS77 w0 _ g s0_0 s0_1 s0_2 from zI HI0)) : g ≠ gb121)); have NB121_0 := zA ((by rw [hg]; exact Nat.ne_of_gt (IsS77.lt (show IsS77 w0 _ g s0_0 s0_1 s0_2 from zI HI0)) : gb121 ≠ g)); replace HK := zA (KeepBut.trans (zK HK) (KeepBut.of_below hb g none) (.inl rfl)); replace HB := zA (below_step (zB1 HB (zA (IsS77.ge HI0.out))) hb); replace HI0 := zA (IsS77.below (zI HI0) hb); clear hb hbox hg) | ((with_reducible refine gate_callee (f := 52) rfl ?_); refine goesL_ (some 12) rfl rfl Try.func52 (by kernel_rfl) rfl #[.pointer (some ⟨g, 0, none⟩), .int .i64 6] rfl zM ?_; (with_reducible refine (spec_l1Below.calls g s0_0 s0_1 s0_2 6 t122 t123 t124 w0 _ ?side1 ?side2 A3.out).mono ?_); (case side1 => exact zI1 HI0 NB0_121); (case side2 => exact zB2 HB (zA (IsS77.ge HI0.out)) GE121); rintro e w11 ⟨rfl, hi, hb, hk⟩; refine ⟨_, rfl, ?_⟩; replace BK121 := zA (KeepBut.blk hk (g' := gb121) (o := .cells #[.int .i64 0, .int .i64 0] 25 (0, 0)) (zD BK121) NB121_0.out (by simp)); replace HK := zA (KeepBut.trans (zK1 HK GW121) hk (.inl rfl)); replace HB := zA (hb); replace HI0 := zA (hi); (try clear hb); (try clear hb2); (try clear hk); (try clear hi)) | ((with_reducible refine gate_callee (f := 52) rfl ?_); refine goesL_ (some 31) rfl rfl Try.func52 (by kernel_rfl) rfl #[.pointer (some ⟨g, 0, none⟩), .int .i64 ji5] rfl (by (try simp only [List.map_toArray, List.map_cons, List.map_nil]); first | done | (simp only [hji5]; rfl) | rfl | (simp only [List.length_drop, List.length_take]; rfl)) ?_; (with_reducible refine (spec_l1Below.calls g s0_0 t123 t124 ji5 t125 t126 t127 w0 _ ?side1 ?side2 A6.out).mono ?_); (case side1 => exact zI1 HI0 NB0_121); (case side2 => exact zB2 HB (zA (IsS77.ge HI0.out)) GE121); rintro e w12 ⟨rfl, hi, hb, hk⟩; refine ⟨_, rfl, ?_⟩; replace BK121 := zA (KeepBut.blk hk (g' := gb121) (o := .cells #[.int .i64 0, .int .i64 0] 25 (0, 0)) (zD BK121) NB121_0.out (by simp)); replace HK := zA (KeepBut.trans (zK1 HK GW121) hk (.inl rfl)); replace HB := zA (hb); replace HI0 := zA (hi); (try clear hb); (try clear hb2); (try clear hk); (try clear hi)) | ((with_reducible refine gate_callee (f := 73) rfl ?_); refine goesL_ (some 32) rfl rfl Try.func73 (by kernel_rfl) rfl #[.int .i64 a1, .int .i64 t125] rfl zM ?_; (with_reducible refine (spec_l2Variable.calls k a1 t125 t128 _ A7.out).mono ?_); rintro e w' ⟨rfl, ⟨nd, rfl⟩⟩; refine ⟨_, rfl, ?_⟩; (try (rw [drewN_self w12]; generalize hq_ : World.drewN w12 _ = w12; have n0_ : Aside0 (w12.heap[gb121]? = some (.cells #[.int .i64 0, .int .i64 0] 25 (0, 0))) := ⟨by rw [← hq_]; exact (zD BK121)⟩; have n1_ : Aside0 (IsS77 w0 w12 g s0_0 t126 t127) := ⟨by rw [← hq_]; exact (zI1 HI0 NB0_121)⟩; have n2_ : Aside0 (KeepBut w w12 g none) := ⟨by rw [← hq_]; exact (zK1 HK GW121)⟩; have n3_ : Aside0 (Below w0.heap.size w0 w12) := ⟨by rw [← hq_]; exact (zB2 HB (zA (IsS77.ge HI0.out)) GE121)⟩; clear BK121 HI0 HK HB hq_; have BK121 := n0_; have HI0 := n1_; have HK := n2_; have HB := n3_; clear n0_ n1_ n2_ n3_))) | ((with_reducible refine gate_callee (f := 75) rfl ?_); refine goesL_ (some 94) rfl rfl Try.func75 (by kernel_rfl) rfl #[.int .i64 a1] rfl zM ?_; (with_reducible refine (spec_l2Full.calls a1 t129 _ A9.out).mono ?_); rintro e w' ⟨rfl, ⟨nd, rfl⟩⟩; refine ⟨_, rfl, ?_⟩; (try (rw [drewN_self w12]; generalize hq_ : World.drewN w12 _ = w12; have n0_ : Aside0 (w12.heap[gb121]? = some (.cells #[.int .i64 0, .int .i64 0] 25 (0, 0))) := ⟨by rw [← hq_]; exact (zD BK121)⟩; have n1_ : Aside0 (IsS77 w0 w12 g s0_0 t126 t127) := ⟨by rw [← hq_]; exact (zI1 HI0 NB0_121)⟩; have n2_ : Aside0 (KeepBut w w12 g none) := ⟨by rw [← hq_]; exact (zK1 HK GW121)⟩; have n3_ : Aside0 (Below w0.heap.size w0 w12) := ⟨by rw [← hq_]; exact (zB2 HB (zA (IsS77.ge HI0.out)) GE121)⟩; clear BK121 HI0 HK HB hq_; have BK121 := n0_; have HI0 := n1_; have HK := n2_; have HB := n3_; clear n0_ n1_ n2_ n3_)); have hnb13 := NB121_0.out; have hnc13 := NB0_121.out; have hcz14_0 := zc0 BK121; have hcz14_1 := zc1 BK121; have hfz14_0 := blk_frozen BK121.out 0; have hfz14_1 := blk_frozen BK121.out 1))
   refine bodyPost_ret (results_cell_row rfl _ _ gb121 25 #[.int .i64 a1, .int .i64 (Go.bits .and .i64 (Go.bits .and .i64 t128 1) t129)] (0, 0) _ rfl (zP BK121) Try.underlying25 rfl (by kernel_rfl)) rfl ?_
   exact ⟨by first | rfl | (simp [errW_none, errW_some] <;> rfl) | (simp only [← hji5]; first | rfl | (simp [errW_none, errW_some] <;> rfl)) | (simp [*, errW_none, errW_some] <;> rfl), zI1 HI0 NB0_121, zB2 HB (zA (IsS77.ge HI0.out)) GE121, zK1 HK GW121⟩
  ·rw [if_neg c8] at H
   have c8b0 : (a1 == 0) = false := beq_eq_false_iff_ne.mpr c8
   have c8b1 : (a1 != 0) = true := bne_iff_ne.mpr c8
   replace H := Option.bind_eq_some_iff.mp H
   obtain ⟨t130, A150, H⟩ := H
   replace H : (some (a1, Go.bits .and .i64 t128 t130, t126, t127)) = some (r1, r2, r3, r4) := H
   have A15 := zA A150
   clear A150
   simp only [Option.some.injEq, Prod.mk.injEq] at H
   obtain ⟨rfl, rfl, rfl, rfl⟩ := H
   go_enter Try.func61, Try.ntmps61
   go_wp2_with (first | ((with_reducible refine gate_dst (N := 4) rfl ?_); refine box_event ?hg (N := 4) ?hd (cs := #[.int .i64 0, .int .i64 0]) (t := 25) ?hr ?_; (case hd => rfl); (case hg => rfl); (case hr => exact zH); intro gb121 hg w16 hbox hb; have BK121 := zA (hbox); have GW121 := zA ((by rw [hg]; exact (keep_size (w := w) (g := g) (row := none) (zK HK)) : w.heap.size ≤ gb121)); have GE121 := zA ((Nat.le_trans HW0.out (by rw [hg]; exact (keep_size (w := w) (g := g) (row := none) (zK HK)) : w.heap.size ≤ gb121) : w0.heap.size ≤ gb121)); have NB0_121 := zA ((by rw [hg]; exact Nat.ne_of_lt (IsS77.lt (show IsS77 w0 _ g s0_0 s0_1 s0_2 from zI HI0)) : g ≠ gb121)); have NB121_0 := zA ((by rw [hg]; exact Nat.ne_of_gt (IsS77.lt (show IsS77 w0 _ g s0_0 s0_1 s0_2 from zI HI0)) : gb121 ≠ g)); replace HK := zA (KeepBut.trans (zK HK) (KeepBut.of_below hb g none) (.inl rfl)); replace HB := zA (below_step (zB1 HB (zA (IsS77.ge HI0.out))) hb); replace HI0 := zA (IsS77.below (zI HI0) hb); clear hb hbox hg) | ((with_reducible refine gate_callee (f := 52) rfl ?_); refine goesL_ (some 12) rfl rfl Try.func52 (by kernel_rfl) rfl #[.pointer (some ⟨g, 0, none⟩), .int .i64 6] rfl zM ?_; (with_reducible refine (spec_l1Below.calls g s0_0 s0_1 s0_2 6 t122 t123 t124 w0 _ ?side1 ?side2 A3.out).mono ?_); (case side1 => exact zI1 HI0 NB0_121); (case side2 => exact zB2 HB (zA (IsS77.ge HI0.out)) GE121); rintro e w17 ⟨rfl, hi, hb, hk⟩; refine ⟨_, rfl, ?_⟩; replace BK121 := zA (KeepBut.blk hk (g' := gb121) (o := .cells #[.int .i64 0, .int .i64 0] 25 (0, 0)) (zD BK121) NB121_0.out (by simp)); replace HK := zA (KeepBut.trans (zK1 HK GW121) hk (.inl rfl)); replace HB := zA (hb); replace HI0 := zA (hi); (try clear hb); (try clear hb2); (try clear hk); (try clear hi)) | ((with_reducible refine gate_callee (f := 52) rfl ?_); refine goesL_ (some 31) rfl rfl Try.func52 (by kernel_rfl) rfl #[.pointer (some ⟨g, 0, none⟩), .int .i64 ji5] rfl (by (try simp only [List.map_toArray, List.map_cons, List.map_nil]); first | done | (simp only [hji5]; rfl) | rfl | (simp only [List.length_drop, List.length_take]; rfl)) ?_; (with_reducible refine (spec_l1Below.calls g s0_0 t123 t124 ji5 t125 t126 t127 w0 _ ?side1 ?side2 A6.out).mono ?_); (case side1 => exact zI1 HI0 NB0_121); (case side2 => exact zB2 HB (zA (IsS77.ge HI0.out)) GE121); rintro e w18 ⟨rfl, hi, hb, hk⟩; refine ⟨_, rfl, ?_⟩; replace BK121 := zA (KeepBut.blk hk (g' := gb121) (o := .cells #[.int .i64 0, .int .i64 0] 25 (0, 0)) (zD BK121) NB121_0.out (by simp)); replace HK := zA (KeepBut.trans (zK1 HK GW121) hk (.inl rfl)); replace HB := zA (hb); replace HI0 := zA (hi); (try clear hb); (try clear hb2); (try clear hk); (try clear hi)) | ((with_reducible refine gate_callee (f := 73) rfl ?_); refine goesL_ (some 32) rfl rfl Try.func73 (by kernel_rfl) rfl #[.int .i64 a1, .int .i64 t125] rfl zM ?_; (with_reducible refine (spec_l2Variable.calls k a1 t125 t128 _ A7.out).mono ?_); rintro e w' ⟨rfl, ⟨nd, rfl⟩⟩; refine ⟨_, rfl, ?_⟩; (try (rw [drewN_self w18]; generalize hq_ : World.drewN w18 _ = w18; have n0_ : Aside0 (w18.heap[gb121]? = some (.cells #[.int .i64 0, .int .i64 0] 25 (0, 0))) := ⟨by rw [← hq_]; exact (zD BK121)⟩; have n1_ : Aside0 (IsS77 w0 w18 g s0_0 t126 t127) := ⟨by rw [← hq_]; exact (zI1 HI0 NB0_121)⟩; have n2_ : Aside0 (KeepBut w w18 g none) := ⟨by rw [← hq_]; exact (zK1 HK GW121)⟩; have n3_ : Aside0 (Below w0.heap.size w0 w18) := ⟨by rw [← hq_]; exact (zB2 HB (zA (IsS77.ge HI0.out)) GE121)⟩; clear BK121 HI0 HK HB hq_; have BK121 := n0_; have HI0 := n1_; have HK := n2_; have HB := n3_; clear n0_ n1_ n2_ n3_))) | ((with_reducible refine gate_callee (f := 75) rfl ?_); refine goesL_ (some 94) rfl rfl Try.func75 (by kernel_rfl) rfl #[.int .i64 a1] rfl zM ?_; (with_reducible refine (spec_l2Full.calls a1 t130 _ A15.out).mono ?_); rintro e w' ⟨rfl, ⟨nd, rfl⟩⟩; refine ⟨_, rfl, ?_⟩; (try (rw [drewN_self w18]; generalize hq_ : World.drewN w18 _ = w18; have n0_ : Aside0 (w18.heap[gb121]? = some (.cells #[.int .i64 0, .int .i64 0] 25 (0, 0))) := ⟨by rw [← hq_]; exact (zD BK121)⟩; have n1_ : Aside0 (IsS77 w0 w18 g s0_0 t126 t127) := ⟨by rw [← hq_]; exact (zI1 HI0 NB0_121)⟩; have n2_ : Aside0 (KeepBut w w18 g none) := ⟨by rw [← hq_]; exact (zK1 HK GW121)⟩; have n3_ : Aside0 (Below w0.heap.size w0 w18) := ⟨by rw [← hq_]; exact (zB2 HB (zA (IsS77.ge HI0.out)) GE121)⟩; clear BK121 HI0 HK HB hq_; have BK121 := n0_; have HI0 := n1_; have HK := n2_; have HB := n3_; clear n0_ n1_ n2_ n3_)); have hnb19 := NB121_0.out; have hnc19 := NB0_121.out; have hcz20_0 := zc0 BK121; have hcz20_1 := zc1 BK121; have hfz20_0 := blk_frozen BK121.out 0; have hfz20_1 := blk_frozen BK121.out 1))
   refine bodyPost_ret (results_cell_row rfl _ _ gb121 25 #[.int .i64 a1, .int .i64 (Go.bits .and .i64 t128 t130)] (0, 0) _ rfl (zP BK121) Try.underlying25 rfl (by kernel_rfl)) rfl ?_
   exact ⟨by first | rfl | (simp [errW_none, errW_some] <;> rfl) | (simp only [← hji5]; first | rfl | (simp [errW_none, errW_some] <;> rfl)) | (simp [*, errW_none, errW_some] <;> rfl), zI1 HI0 NB0_121, zB2 HB (zA (IsS77.ge HI0.out)) GE121, zK1 HK GW121⟩
 ·rw [if_neg c4] at H
  have c4b0 : (t122 == 0) = false := beq_eq_false_iff_ne.mpr c4
  have c4b1 : (t122 != 0) = true := bne_iff_ne.mpr c4
  by_cases c21 : t122 = 1
  ·rw [if_pos c21] at H
   have c21b0 : (t122 == 1) = true := beq_iff_eq.mpr c21
   have c21b1 : (t122 != 1) = false := bne_eq_false_iff_eq.mpr c21
   clear c21
   have H' := zA H
   clear H
   go_enter Try.func61, Try.ntmps61
   go_wp2_with (first | ((with_reducible refine gate_dst (N := 4) rfl ?_); refine box_event ?hg (N := 4) ?hd (cs := #[.int .i64 0, .int .i64 0]) (t := 25) ?hr ?_; (case hd => rfl); (case hg => rfl); (case hr => exact zH); intro gb121 hg w22 hbox hb; have BK121 := zA (hbox); have GW121 := zA ((by rw [hg]; exact (keep_size (w := w) (g := g) (row := none) (zK HK)) : w.heap.size ≤ gb121)); have GE121 := zA ((Nat.le_trans HW0.out (by rw [hg]; exact (keep_size (w := w) (g := g) (row := none) (zK HK)) : w.heap.size ≤ gb121) : w0.heap.size ≤ gb121)); have NB0_121 := zA ((by rw [hg]; exact Nat.ne_of_lt (IsS77.lt (show IsS77 w0 _ g s0_0 s0_1 s0_2 from zI HI0)) : g ≠ gb121)); have NB121_0 := zA ((by rw [hg]; exact Nat.ne_of_gt (IsS77.lt (show IsS77 w0 _ g s0_0 s0_1 s0_2 from zI HI0)) : gb121 ≠ g)); replace HK := zA (KeepBut.trans (zK HK) (KeepBut.of_below hb g none) (.inl rfl)); replace HB := zA (below_step (zB1 HB (zA (IsS77.ge HI0.out))) hb); replace HI0 := zA (IsS77.below (zI HI0) hb); clear hb hbox hg) | ((with_reducible refine gate_callee (f := 52) rfl ?_); refine goesL_ (some 12) rfl rfl Try.func52 (by kernel_rfl) rfl #[.pointer (some ⟨g, 0, none⟩), .int .i64 6] rfl zM ?_; (with_reducible refine (spec_l1Below.calls g s0_0 s0_1 s0_2 6 t122 t123 t124 w0 _ ?side1 ?side2 A3.out).mono ?_); (case side1 => exact zI1 HI0 NB0_121); (case side2 => exact zB2 HB (zA (IsS77.ge HI0.out)) GE121); rintro e w23 ⟨rfl, hi, hb, hk⟩; refine ⟨_, rfl, ?_⟩; replace BK121 := zA (KeepBut.blk hk (g' := gb121) (o := .cells #[.int .i64 0, .int .i64 0] 25 (0, 0)) (zD BK121) NB121_0.out (by simp)); replace HK := zA (KeepBut.trans (zK1 HK GW121) hk (.inl rfl)); replace HB := zA (hb); replace HI0 := zA (hi); (try clear hb); (try clear hb2); (try clear hk); (try clear hi)))
   go_loopg [5, 6] k (fun kq v5 v6 w' => ∃ (x5_1 : Int) (x6_1 : Int), v5 = .int .i64 x5_1 ∧ v6 = .int .i64 x6_1 ∧ Aside0 (spec_l2Draw.l0 kq a1 x5_1 x6_1 s0_0 t123 t124 = some (r1, r2, r3, r4)) ∧ Aside0 (kq ≤ k) ∧ Aside0 (w'.heap[gb121]? = some (.cells #[.int .i64 0, .int .i64 0] 25 (0, 0))) ∧ Aside0 (IsS77 w0 w' g s0_0 t123 t124) ∧ Aside0 (KeepBut w w' g none) ∧ Aside0 (Below w0.heap.size w0 w'))
   case atStart => exact ⟨(0), (0), zS, zS, H', ⟨Nat.le_refl _⟩, ⟨zD BK121⟩, ⟨zI1 HI0 NB0_121⟩, ⟨zK1 HK GW121⟩, ⟨zB2 HB (zA (IsS77.ge HI0.out)) GE121⟩⟩
   case round =>
    clear H'
    try clear c4
    try clear c4b0
    try clear c4b1
    try clear c21
    try clear c21b0
    try clear c21b1
    obtain ⟨x5_1, x6_1, rfl, rfl, HA, HK1, BK121, HI0, HK, HB⟩ := hrel
    cases gk with
    | zero => exact absurd HA.out (by simp [spec_l2Draw.l0])
    | succ k1 =>
     have H := HA.out
     clear HA
     simp only [spec_l2Draw.l0] at H
     by_cases c24 : 0 ≤ a1
     ·rw [if_pos c24] at H
      have c24b0 := eq_true c24
      have c24b1 : decide (0 ≤ a1) = true := decide_eq_true c24
      clear c24
      obtain ⟨ji25, hji25⟩ : ∃ j_ : Int, (shl .i64 1 a1) = j_ := ⟨_, rfl⟩
      replace H : (if x6_1 < (ji25) then ((spec_l2Count.f k1 x6_1).bind fun t131 => (if (wrap64 (2 * t131)) > a1 then (if 0 ≤ x6_1 then (spec_l2Draw.l0 k1 a1 (Go.bits .or .i64 x5_1 (shl .i64 1 x6_1)) (wrap64 (x6_1 + 1)) s0_0 t123 t124) else (none)) else (spec_l2Draw.l0 k1 a1 x5_1 (wrap64 (x6_1 + 1)) s0_0 t123 t124))) else (if a1 = 0 then ((spec_l2Full.f a1).bind fun t132 => (some (a1, Go.bits .and .i64 (Go.bits .and .i64 x5_1 1) t132, t123, t124))) else ((spec_l2Full.f a1).bind fun t133 => (some (a1, Go.bits .and .i64 x5_1 t133, t123, t124))))) = some (r1, r2, r3, r4) := by first | (rw [hji25] at H; exact H) | (simp only [hji25] at H ⊢; exact H)
      have hji25_ : (IntKind.i64.wrap (1 * 2 ^ min a1.toNat 64)) = ji25 := hji25
      have hji25z : a1 ≤ 64 → (IntKind.i64.wrap (1 * 2 ^ a1.toNat)) = ji25 := shl_small hji25
      have hji25u : (IntKind.i64.wrap (2 ^ min a1.toNat 64)) = ji25 := by have h_ := hji25_; rw [Int.one_mul] at h_; exact h_
      have hji25v : a1 ≤ 64 → (IntKind.i64.wrap (2 ^ a1.toNat)) = ji25 := fun hle_ => by have h_ := hji25z hle_; rw [Int.one_mul] at h_; exact h_
      have hji25y : (wrap64 (1 * 2 ^ min a1.toNat 64)) = ji25 := (i64_w _).symm.trans hji25_
      have hji25x : a1 ≤ 64 → (wrap64 (1 * 2 ^ a1.toNat)) = ji25 := fun h_ => (i64_w _).symm.trans (hji25z h_)
      have hji25w : (wrap64 (2 ^ min a1.toNat 64)) = ji25 := by have h_ := hji25y; rw [Int.one_mul] at h_; exact h_
      have hji25s : a1 ≤ 64 → (wrap64 (2 ^ a1.toNat)) = ji25 := fun hle_ => by have h_ := hji25x hle_; rw [Int.one_mul] at h_; exact h_
      by_cases c26 : x6_1 < (ji25)
      ·rw [if_pos c26] at H
       have c26b0 : decide (x6_1 < (ji25)) = true := decide_eq_true c26
       clear c26
       replace H := Option.bind_eq_some_iff.mp H
       obtain ⟨t131, A270, H⟩ := H
       replace H : (if (wrap64 (2 * t131)) > a1 then (if 0 ≤ x6_1 then (spec_l2Draw.l0 k1 a1 (Go.bits .or .i64 x5_1 (shl .i64 1 x6_1)) (wrap64 (x6_1 + 1)) s0_0 t123 t124) else (none)) else (spec_l2Draw.l0 k1 a1 x5_1 (wrap64 (x6_1 + 1)) s0_0 t123 t124)) = some (r1, r2, r3, r4) := H
       have A27 := zA A270
       clear A270
       by_cases c28 : (wrap64 (2 * t131)) > a1
       ·rw [if_pos c28] at H
        have c28b0 : decide (a1 < (wrap64 (2 * t131))) = true := decide_eq_true c28
        clear c28
        by_cases c29 : 0 ≤ x6_1
        ·rw [if_pos c29] at H
         have c29b0 := eq_true c29
         have c29b1 : decide (0 ≤ x6_1) = true := decide_eq_true c29
         clear c29
         obtain ⟨ji30, hji30⟩ : ∃ j_ : Int, (shl .i64 1 x6_1) = j_ := ⟨_, rfl⟩
         replace H : (spec_l2Draw.l0 k1 a1 (Go.bits .or .i64 x5_1 (ji30)) (wrap64 (x6_1 + 1)) s0_0 t123 t124) = some (r1, r2, r3, r4) := by first | (rw [hji30] at H; exact H) | (simp only [hji30] at H ⊢; exact H)
         (try rw [hji30] at A27)
         have hji30_ : (IntKind.i64.wrap (1 * 2 ^ min x6_1.toNat 64)) = ji30 := hji30
         have hji30z : x6_1 ≤ 64 → (IntKind.i64.wrap (1 * 2 ^ x6_1.toNat)) = ji30 := shl_small hji30
         have hji30u : (IntKind.i64.wrap (2 ^ min x6_1.toNat 64)) = ji30 := by have h_ := hji30_; rw [Int.one_mul] at h_; exact h_
         have hji30v : x6_1 ≤ 64 → (IntKind.i64.wrap (2 ^ x6_1.toNat)) = ji30 := fun hle_ => by have h_ := hji30z hle_; rw [Int.one_mul] at h_; exact h_
         have hji30y : (wrap64 (1 * 2 ^ min x6_1.toNat 64)) = ji30 := (i64_w _).symm.trans hji30_
         have hji30x : x6_1 ≤ 64 → (wrap64 (1 * 2 ^ x6_1.toNat)) = ji30 := fun h_ => (i64_w _).symm.trans (hji30z h_)
         have hji30w : (wrap64 (2 ^ min x6_1.toNat 64)) = ji30 := by have h_ := hji30y; rw [Int.one_mul] at h_; exact h_
         have hji30s : x6_1 ≤ 64 → (wrap64 (2 ^ x6_1.toNat)) = ji30 := fun hle_ => by have h_ := hji30x hle_; rw [Int.one_mul] at h_; exact h_
         have H' := zA H
         clear H
         go_wp2_with (first | ((with_reducible refine gate_callee (f := 74) rfl ?_); refine goesL_ (some 42) rfl rfl Try.func74 (by kernel_rfl) rfl #[.int .i64 x6_1] rfl zM ?_; (with_reducible refine (spec_l2Count.calls k1 x6_1 t131 _ A27.out).mono ?_); rintro e w' ⟨rfl, ⟨nd, rfl⟩⟩; refine ⟨_, rfl, ?_⟩))
         go_roundg k1
         case measure => have := HK1.out; omega
         case rel => exact ⟨(Go.bits .or .i64 x5_1 (ji30)), (wrap64 (x6_1 + 1)), (by first | rfl | (simp; done) | (simp only [← hji30] <;> (first | rfl | simp)) | (simp [*]; done)), zS, H', ⟨by have := HK1.out; omega⟩, ⟨zD BK121⟩, ⟨zI1 HI0 NB0_121⟩, ⟨zK1 HK GW121⟩, ⟨zB2 HB (zA (IsS77.ge HI0.out)) GE121⟩⟩
        ·rw [if_neg c29] at H
         exact absurd H (by simp)
       ·rw [if_neg c28] at H
        have c28b0 : decide (a1 < (wrap64 (2 * t131))) = false := decide_eq_false c28
        clear c28
        have H' := zA H
        clear H
        go_wp2_with (first | ((with_reducible refine gate_callee (f := 74) rfl ?_); refine goesL_ (some 42) rfl rfl Try.func74 (by kernel_rfl) rfl #[.int .i64 x6_1] rfl zM ?_; (with_reducible refine (spec_l2Count.calls k1 x6_1 t131 _ A27.out).mono ?_); rintro e w' ⟨rfl, ⟨nd, rfl⟩⟩; refine ⟨_, rfl, ?_⟩))
        go_roundg k1
        case measure => have := HK1.out; omega
        case rel => exact ⟨(x5_1), (wrap64 (x6_1 + 1)), zS, zS, H', ⟨by have := HK1.out; omega⟩, ⟨zD BK121⟩, ⟨zI1 HI0 NB0_121⟩, ⟨zK1 HK GW121⟩, ⟨zB2 HB (zA (IsS77.ge HI0.out)) GE121⟩⟩
      ·rw [if_neg c26] at H
       have c26b0 : decide (x6_1 < (ji25)) = false := decide_eq_false c26
       clear c26
       by_cases c31 : a1 = 0
       ·rw [if_pos c31] at H
        have c31b0 : (a1 == 0) = true := beq_iff_eq.mpr c31
        have hz31z := hji25z (by omega)
        have hz31v := hji25v (by omega)
        have hz31x := hji25x (by omega)
        have hz31s := hji25s (by omega)
        have c31b1 : (a1 != 0) = false := bne_eq_false_iff_eq.mpr c31
        clear c31
        replace H := Option.bind_eq_some_iff.mp H
        obtain ⟨t132, A320, H⟩ := H
        replace H : (some (a1, Go.bits .and .i64 (Go.bits .and .i64 x5_1 1) t132, t123, t124)) = some (r1, r2, r3, r4) := H
        have A32 := zA A320
        clear A320
        simp only [Option.some.injEq, Prod.mk.injEq] at H
        obtain ⟨rfl, rfl, rfl, rfl⟩ := H
        go_wp2_with (first | ((with_reducible refine gate_callee (f := 75) rfl ?_); refine goesL_ (some 94) rfl rfl Try.func75 (by kernel_rfl) rfl #[.int .i64 a1] rfl zM ?_; (with_reducible refine (spec_l2Full.calls a1 t132 _ A32.out).mono ?_); rintro e w' ⟨rfl, ⟨nd, rfl⟩⟩; refine ⟨_, rfl, ?_⟩; (try (rw [drewN_self wr]; generalize hq_ : World.drewN wr _ = wr; have n0_ : Aside0 (wr.heap[gb121]? = some (.cells #[.int .i64 0, .int .i64 0] 25 (0, 0))) := ⟨by rw [← hq_]; exact (zD BK121)⟩; have n1_ : Aside0 (IsS77 w0 wr g s0_0 t123 t124) := ⟨by rw [← hq_]; exact (zI1 HI0 NB0_121)⟩; have n2_ : Aside0 (KeepBut w wr g none) := ⟨by rw [← hq_]; exact (zK1 HK GW121)⟩; have n3_ : Aside0 (Below w0.heap.size w0 wr) := ⟨by rw [← hq_]; exact (zB2 HB (zA (IsS77.ge HI0.out)) GE121)⟩; clear BK121 HI0 HK HB hq_; have BK121 := n0_; have HI0 := n1_; have HK := n2_; have HB := n3_; clear n0_ n1_ n2_ n3_)); have hnb33 := NB121_0.out; have hnc33 := NB0_121.out; have hcz34_0 := zc0 BK121; have hcz34_1 := zc1 BK121; have hfz34_0 := blk_frozen BK121.out 0; have hfz34_1 := blk_frozen BK121.out 1))
        refine bodyPost_ret (results_cell_row rfl _ _ gb121 25 #[.int .i64 a1, .int .i64 (Go.bits .and .i64 (Go.bits .and .i64 x5_1 1) t132)] (0, 0) _ rfl (zP BK121) Try.underlying25 rfl (by kernel_rfl)) rfl ?_
        exact ⟨by first | rfl | (simp [errW_none, errW_some] <;> rfl) | (simp only [← hji25]; first | rfl | (simp [errW_none, errW_some] <;> rfl)) | (simp [*, errW_none, errW_some] <;> rfl), zI1 HI0 NB0_121, zB2 HB (zA (IsS77.ge HI0.out)) GE121, zK1 HK GW121⟩
       ·rw [if_neg c31] at H
        have c31b0 : (a1 == 0) = false := beq_eq_false_iff_ne.mpr c31
        have c31b1 : (a1 != 0) = true := bne_iff_ne.mpr c31
        replace H := Option.bind_eq_some_iff.mp H
        obtain ⟨t133, A350, H⟩ := H
        replace H : (some (a1, Go.bits .and .i64 x5_1 t133, t123, t124)) = some (r1, r2, r3, r4) := H
        have A35 := zA A350
        clear A350
        simp only [Option.some.injEq, Prod.mk.injEq] at H
        obtain ⟨rfl, rfl, rfl, rfl⟩ := H
        go_wp2_with (first | ((with_reducible refine gate_callee (f := 75) rfl ?_); refine goesL_ (some 94) rfl rfl Try.func75 (by kernel_rfl) rfl #[.int .i64 a1] rfl zM ?_; (with_reducible refine (spec_l2Full.calls a1 t133 _ A35.out).mono ?_); rintro e w' ⟨rfl, ⟨nd, rfl⟩⟩; refine ⟨_, rfl, ?_⟩; (try (rw [drewN_self wr]; generalize hq_ : World.drewN wr _ = wr; have n0_ : Aside0 (wr.heap[gb121]? = some (.cells #[.int .i64 0, .int .i64 0] 25 (0, 0))) := ⟨by rw [← hq_]; exact (zD BK121)⟩; have n1_ : Aside0 (IsS77 w0 wr g s0_0 t123 t124) := ⟨by rw [← hq_]; exact (zI1 HI0 NB0_121)⟩; have n2_ : Aside0 (KeepBut w wr g none) := ⟨by rw [← hq_]; exact (zK1 HK GW121)⟩; have n3_ : Aside0 (Below w0.heap.size w0 wr) := ⟨by rw [← hq_]; exact (zB2 HB (zA (IsS77.ge HI0.out)) GE121)⟩; clear BK121 HI0 HK HB hq_; have BK121 := n0_; have HI0 := n1_; have HK := n2_; have HB := n3_; clear n0_ n1_ n2_ n3_)); have hnb36 := NB121_0.out; have hnc36 := NB0_121.out; have hcz37_0 := zc0 BK121; have hcz37_1 := zc1 BK121; have hfz37_0 := blk_frozen BK121.out 0; have hfz37_1 := blk_frozen BK121.out 1))
        refine bodyPost_ret (results_cell_row rfl _ _ gb121 25 #[.int .i64 a1, .int .i64 (Go.bits .and .i64 x5_1 t133)] (0, 0) _ rfl (zP BK121) Try.underlying25 rfl (by kernel_rfl)) rfl ?_
        exact ⟨by first | rfl | (simp [errW_none, errW_some] <;> rfl) | (simp only [← hji25]; first | rfl | (simp [errW_none, errW_some] <;> rfl)) | (simp [*, errW_none, errW_some] <;> rfl), zI1 HI0 NB0_121, zB2 HB (zA (IsS77.ge HI0.out)) GE121, zK1 HK GW121⟩
     ·rw [if_neg c24] at H
      exact absurd H (by simp)
  ·rw [if_neg c21] at H
   have c21b0 : (t122 == 1) = false := beq_eq_false_iff_ne.mpr c21
   have c21b1 : (t122 != 1) = true := bne_iff_ne.mpr c21
   by_cases c38 : t122 = 2
   ·rw [if_pos c38] at H
    have c38b0 : (t122 == 2) = true := beq_iff_eq.mpr c38
    have c38b1 : (t122 != 2) = false := bne_eq_false_iff_eq.mpr c38
    clear c38
    have H' := zA H
    clear H
    go_enter Try.func61, Try.ntmps61
    go_wp2_with (first | ((with_reducible refine gate_dst (N := 4) rfl ?_); refine box_event ?hg (N := 4) ?hd (cs := #[.int .i64 0, .int .i64 0]) (t := 25) ?hr ?_; (case hd => rfl); (case hg => rfl); (case hr => exact zH); intro gb121 hg w39 hbox hb; have BK121 := zA (hbox); have GW121 := zA ((by rw [hg]; exact (keep_size (w := w) (g := g) (row := none) (zK HK)) : w.heap.size ≤ gb121)); have GE121 := zA ((Nat.le_trans HW0.out (by rw [hg]; exact (keep_size (w := w) (g := g) (row := none) (zK HK)) : w.heap.size ≤ gb121) : w0.heap.size ≤ gb121)); have NB0_121 := zA ((by rw [hg]; exact Nat.ne_of_lt (IsS77.lt (show IsS77 w0 _ g s0_0 s0_1 s0_2 from zI HI0)) : g ≠ gb121)); have NB121_0 := zA ((by rw [hg]; exact Nat.ne_of_gt (IsS77.lt (show IsS77 w0 _ g s0_0 s0_1 s0_2 from zI HI0)) : gb121 ≠ g)); replace HK := zA (KeepBut.trans (zK HK) (KeepBut.of_below hb g none) (.inl rfl)); replace HB := zA (below_step (zB1 HB (zA (IsS77.ge HI0.out))) hb); replace HI0 := zA (IsS77.below (zI HI0) hb); clear hb hbox hg) | ((with_reducible refine gate_callee (f := 52) rfl ?_); refine goesL_ (some 12) rfl rfl Try.func52 (by kernel_rfl) rfl #[.pointer (some ⟨g, 0, none⟩), .int .i64 6] rfl zM ?_; (with_reducible refine (spec_l1Below.calls g s0_0 s0_1 s0_2 6 t122 t123 t124 w0 _ ?side1 ?side2 A3.out).mono ?_); (case side1 => exact zI1 HI0 NB0_121); (case side2 => exact zB2 HB (zA (IsS77.ge HI0.out)) GE121); rintro e w40 ⟨rfl, hi, hb, hk⟩; refine ⟨_, rfl, ?_⟩; replace BK121 := zA (KeepBut.blk hk (g' := gb121) (o := .cells #[.int .i64 0, .int .i64 0] 25 (0, 0)) (zD BK121) NB121_0.out (by simp)); replace HK := zA (KeepBut.trans (zK1 HK GW121) hk (.inl rfl)); replace HB := zA (hb); replace HI0 := zA (hi); (try clear hb); (try clear hb2); (try clear hk); (try clear hi)))
    go_loopg [5, 7] k (fun kq v5 v7 w' => ∃ (x5_1 : Int) (x7_1 : Int), v5 = .int .i64 x5_1 ∧ v7 = .int .i64 x7_1 ∧ Aside0 (spec_l2Draw.l1 kq a1 x5_1 x7_1 s0_0 t123 t124 = some (r1, r2, r3, r4)) ∧ Aside0 (kq ≤ k) ∧ Aside0 (w'.heap[gb121]? = some (.cells #[.int .i64 0, .int .i64 0] 25 (0, 0))) ∧ Aside0 (IsS77 w0 w' g s0_0 t123 t124) ∧ Aside0 (KeepBut w w' g none) ∧ Aside0 (Below w0.heap.size w0 w'))
    case atStart => exact ⟨(0), (0), zS, zS, H', ⟨Nat.le_refl _⟩, ⟨zD BK121⟩, ⟨zI1 HI0 NB0_121⟩, ⟨zK1 HK GW121⟩, ⟨zB2 HB (zA (IsS77.ge HI0.out)) GE121⟩⟩
    case round =>
     clear H'
     try clear c4
     try clear c4b0
     try clear c4b1
     try clear c21
     try clear c21b0
     try clear c21b1
     try clear c38
     try clear c38b0
     try clear c38b1
     obtain ⟨x5_1, x7_1, rfl, rfl, HA, HK1, BK121, HI0, HK, HB⟩ := hrel
     cases gk with
     | zero => exact absurd HA.out (by simp [spec_l2Draw.l1])
     | succ k1 =>
      have H := HA.out
      clear HA
      simp only [spec_l2Draw.l1] at H
      by_cases c41 : 0 ≤ a1
      ·rw [if_pos c41] at H
       have c41b0 := eq_true c41
       have c41b1 : decide (0 ≤ a1) = true := decide_eq_true c41
       clear c41
       obtain ⟨ji42, hji42⟩ : ∃ j_ : Int, (shl .i64 1 a1) = j_ := ⟨_, rfl⟩
       replace H : (if x7_1 < (ji42) then ((spec_l2Count.f k1 x7_1).bind fun t134 => (if (Int.tmod t134 2) = 1 then (if 0 ≤ x7_1 then (spec_l2Draw.l1 k1 a1 (Go.bits .or .i64 x5_1 (shl .i64 1 x7_1)) (wrap64 (x7_1 + 1)) s0_0 t123 t124) else (none)) else (spec_l2Draw.l1 k1 a1 x5_1 (wrap64 (x7_1 + 1)) s0_0 t123 t124))) else (if a1 = 0 then ((spec_l2Full.f a1).bind fun t135 => (some (a1, Go.bits .and .i64 (Go.bits .and .i64 x5_1 1) t135, t123, t124))) else ((spec_l2Full.f a1).bind fun t136 => (some (a1, Go.bits .and .i64 x5_1 t136, t123, t124))))) = some (r1, r2, r3, r4) := by first | (rw [hji42] at H; exact H) | (simp only [hji42] at H ⊢; exact H)
       have hji42_ : (IntKind.i64.wrap (1 * 2 ^ min a1.toNat 64)) = ji42 := hji42
       have hji42z : a1 ≤ 64 → (IntKind.i64.wrap (1 * 2 ^ a1.toNat)) = ji42 := shl_small hji42
       have hji42u : (IntKind.i64.wrap (2 ^ min a1.toNat 64)) = ji42 := by have h_ := hji42_; rw [Int.one_mul] at h_; exact h_
       have hji42v : a1 ≤ 64 → (IntKind.i64.wrap (2 ^ a1.toNat)) = ji42 := fun hle_ => by have h_ := hji42z hle_; rw [Int.one_mul] at h_; exact h_
       have hji42y : (wrap64 (1 * 2 ^ min a1.toNat 64)) = ji42 := (i64_w _).symm.trans hji42_
       have hji42x : a1 ≤ 64 → (wrap64 (1 * 2 ^ a1.toNat)) = ji42 := fun h_ => (i64_w _).symm.trans (hji42z h_)
       have hji42w : (wrap64 (2 ^ min a1.toNat 64)) = ji42 := by have h_ := hji42y; rw [Int.one_mul] at h_; exact h_
       have hji42s : a1 ≤ 64 → (wrap64 (2 ^ a1.toNat)) = ji42 := fun hle_ => by have h_ := hji42x hle_; rw [Int.one_mul] at h_; exact h_
       by_cases c43 : x7_1 < (ji42)
       ·rw [if_pos c43] at H
        have c43b0 : decide (x7_1 < (ji42)) = true := decide_eq_true c43
        clear c43
        replace H := Option.bind_eq_some_iff.mp H
        obtain ⟨t134, A440, H⟩ := H
        replace H : (if (Int.tmod t134 2) = 1 then (if 0 ≤ x7_1 then (spec_l2Draw.l1 k1 a1 (Go.bits .or .i64 x5_1 (shl .i64 1 x7_1)) (wrap64 (x7_1 + 1)) s0_0 t123 t124) else (none)) else (spec_l2Draw.l1 k1 a1 x5_1 (wrap64 (x7_1 + 1)) s0_0 t123 t124)) = some (r1, r2, r3, r4) := H
        have A44 := zA A440
        clear A440
        by_cases c45 : (Int.tmod t134 2) = 1
        ·rw [if_pos c45] at H
         have c45b0 : ((Int.tmod t134 2) == 1) = true := beq_iff_eq.mpr c45
         have c45b1 : ((Int.tmod t134 2) != 1) = false := bne_eq_false_iff_eq.mpr c45
         clear c45
         by_cases c46 : 0 ≤ x7_1
         ·rw [if_pos c46] at H
          have c46b0 := eq_true c46
          have c46b1 : decide (0 ≤ x7_1) = true := decide_eq_true c46
          clear c46
          obtain ⟨ji47, hji47⟩ : ∃ j_ : Int, (shl .i64 1 x7_1) = j_ := ⟨_, rfl⟩
          replace H : (spec_l2Draw.l1 k1 a1 (Go.bits .or .i64 x5_1 (ji47)) (wrap64 (x7_1 + 1)) s0_0 t123 t124) = some (r1, r2, r3, r4) := by first | (rw [hji47] at H; exact H) | (simp only [hji47] at H ⊢; exact H)
          (try rw [hji47] at A44)
          have hji47_ : (IntKind.i64.wrap (1 * 2 ^ min x7_1.toNat 64)) = ji47 := hji47
          have hji47z : x7_1 ≤ 64 → (IntKind.i64.wrap (1 * 2 ^ x7_1.toNat)) = ji47 := shl_small hji47
          have hji47u : (IntKind.i64.wrap (2 ^ min x7_1.toNat 64)) = ji47 := by have h_ := hji47_; rw [Int.one_mul] at h_; exact h_
          have hji47v : x7_1 ≤ 64 → (IntKind.i64.wrap (2 ^ x7_1.toNat)) = ji47 := fun hle_ => by have h_ := hji47z hle_; rw [Int.one_mul] at h_; exact h_
          have hji47y : (wrap64 (1 * 2 ^ min x7_1.toNat 64)) = ji47 := (i64_w _).symm.trans hji47_
          have hji47x : x7_1 ≤ 64 → (wrap64 (1 * 2 ^ x7_1.toNat)) = ji47 := fun h_ => (i64_w _).symm.trans (hji47z h_)
          have hji47w : (wrap64 (2 ^ min x7_1.toNat 64)) = ji47 := by have h_ := hji47y; rw [Int.one_mul] at h_; exact h_
          have hji47s : x7_1 ≤ 64 → (wrap64 (2 ^ x7_1.toNat)) = ji47 := fun hle_ => by have h_ := hji47x hle_; rw [Int.one_mul] at h_; exact h_
          have H' := zA H
          clear H
          go_wp2_with (first | ((with_reducible refine gate_callee (f := 74) rfl ?_); refine goesL_ (some 59) rfl rfl Try.func74 (by kernel_rfl) rfl #[.int .i64 x7_1] rfl zM ?_; (with_reducible refine (spec_l2Count.calls k1 x7_1 t134 _ A44.out).mono ?_); rintro e w' ⟨rfl, ⟨nd, rfl⟩⟩; refine ⟨_, rfl, ?_⟩))
          go_roundg k1
          case measure => have := HK1.out; omega
          case rel => exact ⟨(Go.bits .or .i64 x5_1 (ji47)), (wrap64 (x7_1 + 1)), (by first | rfl | (simp; done) | (simp only [← hji47] <;> (first | rfl | simp)) | (simp [*]; done)), zS, H', ⟨by have := HK1.out; omega⟩, ⟨zD BK121⟩, ⟨zI1 HI0 NB0_121⟩, ⟨zK1 HK GW121⟩, ⟨zB2 HB (zA (IsS77.ge HI0.out)) GE121⟩⟩
         ·rw [if_neg c46] at H
          exact absurd H (by simp)
        ·rw [if_neg c45] at H
         have c45b0 : ((Int.tmod t134 2) == 1) = false := beq_eq_false_iff_ne.mpr c45
         have c45b1 : ((Int.tmod t134 2) != 1) = true := bne_iff_ne.mpr c45
         have H' := zA H
         clear H
         go_wp2_with (first | ((with_reducible refine gate_callee (f := 74) rfl ?_); refine goesL_ (some 59) rfl rfl Try.func74 (by kernel_rfl) rfl #[.int .i64 x7_1] rfl zM ?_; (with_reducible refine (spec_l2Count.calls k1 x7_1 t134 _ A44.out).mono ?_); rintro e w' ⟨rfl, ⟨nd, rfl⟩⟩; refine ⟨_, rfl, ?_⟩))
         go_roundg k1
         case measure => have := HK1.out; omega
         case rel => exact ⟨(x5_1), (wrap64 (x7_1 + 1)), zS, zS, H', ⟨by have := HK1.out; omega⟩, ⟨zD BK121⟩, ⟨zI1 HI0 NB0_121⟩, ⟨zK1 HK GW121⟩, ⟨zB2 HB (zA (IsS77.ge HI0.out)) GE121⟩⟩
       ·rw [if_neg c43] at H
        have c43b0 : decide (x7_1 < (ji42)) = false := decide_eq_false c43
        clear c43
        by_cases c48 : a1 = 0
        ·rw [if_pos c48] at H
         have c48b0 : (a1 == 0) = true := beq_iff_eq.mpr c48
         have hz48z := hji42z (by omega)
         have hz48v := hji42v (by omega)
         have hz48x := hji42x (by omega)
         have hz48s := hji42s (by omega)
         have c48b1 : (a1 != 0) = false := bne_eq_false_iff_eq.mpr c48
         clear c48
         replace H := Option.bind_eq_some_iff.mp H
         obtain ⟨t135, A490, H⟩ := H
         replace H : (some (a1, Go.bits .and .i64 (Go.bits .and .i64 x5_1 1) t135, t123, t124)) = some (r1, r2, r3, r4) := H
         have A49 := zA A490
         clear A490
         simp only [Option.some.injEq, Prod.mk.injEq] at H
         obtain ⟨rfl, rfl, rfl, rfl⟩ := H
         go_wp2_with (first | ((with_reducible refine gate_callee (f := 75) rfl ?_); refine goesL_ (some 94) rfl rfl Try.func75 (by kernel_rfl) rfl #[.int .i64 a1] rfl zM ?_; (with_reducible refine (spec_l2Full.calls a1 t135 _ A49.out).mono ?_); rintro e w' ⟨rfl, ⟨nd, rfl⟩⟩; refine ⟨_, rfl, ?_⟩; (try (rw [drewN_self wr]; generalize hq_ : World.drewN wr _ = wr; have n0_ : Aside0 (wr.heap[gb121]? = some (.cells #[.int .i64 0, .int .i64 0] 25 (0, 0))) := ⟨by rw [← hq_]; exact (zD BK121)⟩; have n1_ : Aside0 (IsS77 w0 wr g s0_0 t123 t124) := ⟨by rw [← hq_]; exact (zI1 HI0 NB0_121)⟩; have n2_ : Aside0 (KeepBut w wr g none) := ⟨by rw [← hq_]; exact (zK1 HK GW121)⟩; have n3_ : Aside0 (Below w0.heap.size w0 wr) := ⟨by rw [← hq_]; exact (zB2 HB (zA (IsS77.ge HI0.out)) GE121)⟩; clear BK121 HI0 HK HB hq_; have BK121 := n0_; have HI0 := n1_; have HK := n2_; have HB := n3_; clear n0_ n1_ n2_ n3_)); have hnb50 := NB121_0.out; have hnc50 := NB0_121.out; have hcz51_0 := zc0 BK121; have hcz51_1 := zc1 BK121; have hfz51_0 := blk_frozen BK121.out 0; have hfz51_1 := blk_frozen BK121.out 1))
         refine bodyPost_ret (results_cell_row rfl _ _ gb121 25 #[.int .i64 a1, .int .i64 (Go.bits .and .i64 (Go.bits .and .i64 x5_1 1) t135)] (0, 0) _ rfl (zP BK121) Try.underlying25 rfl (by kernel_rfl)) rfl ?_
         exact ⟨by first | rfl | (simp [errW_none, errW_some] <;> rfl) | (simp only [← hji42]; first | rfl | (simp [errW_none, errW_some] <;> rfl)) | (simp [*, errW_none, errW_some] <;> rfl), zI1 HI0 NB0_121, zB2 HB (zA (IsS77.ge HI0.out)) GE121, zK1 HK GW121⟩
        ·rw [if_neg c48] at H
         have c48b0 : (a1 == 0) = false := beq_eq_false_iff_ne.mpr c48
         have c48b1 : (a1 != 0) = true := bne_iff_ne.mpr c48
         replace H := Option.bind_eq_some_iff.mp H
         obtain ⟨t136, A520, H⟩ := H
         replace H : (some (a1, Go.bits .and .i64 x5_1 t136, t123, t124)) = some (r1, r2, r3, r4) := H
         have A52 := zA A520
         clear A520
         simp only [Option.some.injEq, Prod.mk.injEq] at H
         obtain ⟨rfl, rfl, rfl, rfl⟩ := H
         go_wp2_with (first | ((with_reducible refine gate_callee (f := 75) rfl ?_); refine goesL_ (some 94) rfl rfl Try.func75 (by kernel_rfl) rfl #[.int .i64 a1] rfl zM ?_; (with_reducible refine (spec_l2Full.calls a1 t136 _ A52.out).mono ?_); rintro e w' ⟨rfl, ⟨nd, rfl⟩⟩; refine ⟨_, rfl, ?_⟩; (try (rw [drewN_self wr]; generalize hq_ : World.drewN wr _ = wr; have n0_ : Aside0 (wr.heap[gb121]? = some (.cells #[.int .i64 0, .int .i64 0] 25 (0, 0))) := ⟨by rw [← hq_]; exact (zD BK121)⟩; have n1_ : Aside0 (IsS77 w0 wr g s0_0 t123 t124) := ⟨by rw [← hq_]; exact (zI1 HI0 NB0_121)⟩; have n2_ : Aside0 (KeepBut w wr g none) := ⟨by rw [← hq_]; exact (zK1 HK GW121)⟩; have n3_ : Aside0 (Below w0.heap.size w0 wr) := ⟨by rw [← hq_]; exact (zB2 HB (zA (IsS77.ge HI0.out)) GE121)⟩; clear BK121 HI0 HK HB hq_; have BK121 := n0_; have HI0 := n1_; have HK := n2_; have HB := n3_; clear n0_ n1_ n2_ n3_)); have hnb53 := NB121_0.out; have hnc53 := NB0_121.out; have hcz54_0 := zc0 BK121; have hcz54_1 := zc1 BK121; have hfz54_0 := blk_frozen BK121.out 0; have hfz54_1 := blk_frozen BK121.out 1))
         refine bodyPost_ret (results_cell_row rfl _ _ gb121 25 #[.int .i64 a1, .int .i64 (Go.bits .and .i64 x5_1 t136)] (0, 0) _ rfl (zP BK121) Try.underlying25 rfl (by kernel_rfl)) rfl ?_
         exact ⟨by first | rfl | (simp [errW_none, errW_some] <;> rfl) | (simp only [← hji42]; first | rfl | (simp [errW_none, errW_some] <;> rfl)) | (simp [*, errW_none, errW_some] <;> rfl), zI1 HI0 NB0_121, zB2 HB (zA (IsS77.ge HI0.out)) GE121, zK1 HK GW121⟩
      ·rw [if_neg c41] at H
       exact absurd H (by simp)
   ·rw [if_neg c38] at H
    have c38b0 : (t122 == 2) = false := beq_eq_false_iff_ne.mpr c38
    have c38b1 : (t122 != 2) = true := bne_iff_ne.mpr c38
    by_cases c55 : t122 = 3
    ·rw [if_pos c55] at H
     have c55b0 : (t122 == 3) = true := beq_iff_eq.mpr c55
     have c55b1 : (t122 != 3) = false := bne_eq_false_iff_eq.mpr c55
     clear c55
     by_cases c56 : 0 ≤ a1
     ·rw [if_pos c56] at H
      have c56b0 := eq_true c56
      have c56b1 : decide (0 ≤ a1) = true := decide_eq_true c56
      clear c56
      obtain ⟨ji57, hji57⟩ : ∃ j_ : Int, (shl .i64 1 a1) = j_ := ⟨_, rfl⟩
      replace H : ((spec_l1Below.f s0_0 t123 t124 (ji57)).bind fun bt137 => (spec_l2Draw.l2 k a1 0 bt137.1 0 s0_0 bt137.2.1 bt137.2.2)) = some (r1, r2, r3, r4) := by first | (rw [hji57] at H; exact H) | (simp only [hji57] at H ⊢; exact H)
      (try rw [hji57] at A3)
      have hji57_ : (IntKind.i64.wrap (1 * 2 ^ min a1.toNat 64)) = ji57 := hji57
      have hji57z : a1 ≤ 64 → (IntKind.i64.wrap (1 * 2 ^ a1.toNat)) = ji57 := shl_small hji57
      have hji57u : (IntKind.i64.wrap (2 ^ min a1.toNat 64)) = ji57 := by have h_ := hji57_; rw [Int.one_mul] at h_; exact h_
      have hji57v : a1 ≤ 64 → (IntKind.i64.wrap (2 ^ a1.toNat)) = ji57 := fun hle_ => by have h_ := hji57z hle_; rw [Int.one_mul] at h_; exact h_
      have hji57y : (wrap64 (1 * 2 ^ min a1.toNat 64)) = ji57 := (i64_w _).symm.trans hji57_
      have hji57x : a1 ≤ 64 → (wrap64 (1 * 2 ^ a1.toNat)) = ji57 := fun h_ => (i64_w _).symm.trans (hji57z h_)
      have hji57w : (wrap64 (2 ^ min a1.toNat 64)) = ji57 := by have h_ := hji57y; rw [Int.one_mul] at h_; exact h_
      have hji57s : a1 ≤ 64 → (wrap64 (2 ^ a1.toNat)) = ji57 := fun hle_ => by have h_ := hji57x hle_; rw [Int.one_mul] at h_; exact h_
      replace H := Option.bind_eq_some_iff.mp H
      obtain ⟨⟨t137, t138, t139⟩, A580, H⟩ := H
      replace H : (spec_l2Draw.l2 k a1 0 t137 0 s0_0 t138 t139) = some (r1, r2, r3, r4) := H
      have A58 := zA A580
      clear A580
      have H' := zA H
      clear H
      go_enter Try.func61, Try.ntmps61
      go_wp2_with (first | ((with_reducible refine gate_dst (N := 4) rfl ?_); refine box_event ?hg (N := 4) ?hd (cs := #[.int .i64 0, .int .i64 0]) (t := 25) ?hr ?_; (case hd => rfl); (case hg => rfl); (case hr => exact zH); intro gb121 hg w59 hbox hb; have BK121 := zA (hbox); have GW121 := zA ((by rw [hg]; exact (keep_size (w := w) (g := g) (row := none) (zK HK)) : w.heap.size ≤ gb121)); have GE121 := zA ((Nat.le_trans HW0.out (by rw [hg]; exact (keep_size (w := w) (g := g) (row := none) (zK HK)) : w.heap.size ≤ gb121) : w0.heap.size ≤ gb121)); have NB0_121 := zA ((by rw [hg]; exact Nat.ne_of_lt (IsS77.lt (show IsS77 w0 _ g s0_0 s0_1 s0_2 from zI HI0)) : g ≠ gb121)); have NB121_0 := zA ((by rw [hg]; exact Nat.ne_of_gt (IsS77.lt (show IsS77 w0 _ g s0_0 s0_1 s0_2 from zI HI0)) : gb121 ≠ g)); replace HK := zA (KeepBut.trans (zK HK) (KeepBut.of_below hb g none) (.inl rfl)); replace HB := zA (below_step (zB1 HB (zA (IsS77.ge HI0.out))) hb); replace HI0 := zA (IsS77.below (zI HI0) hb); clear hb hbox hg) | ((with_reducible refine gate_callee (f := 52) rfl ?_); refine goesL_ (some 12) rfl rfl Try.func52 (by kernel_rfl) rfl #[.pointer (some ⟨g, 0, none⟩), .int .i64 6] rfl zM ?_; (with_reducible refine (spec_l1Below.calls g s0_0 s0_1 s0_2 6 t122 t123 t124 w0 _ ?side1 ?side2 A3.out).mono ?_); (case side1 => exact zI1 HI0 NB0_121); (case side2 => exact zB2 HB (zA (IsS77.ge HI0.out)) GE121); rintro e w60 ⟨rfl, hi, hb, hk⟩; refine ⟨_, rfl, ?_⟩; replace BK121 := zA (KeepBut.blk hk (g' := gb121) (o := .cells #[.int .i64 0, .int .i64 0] 25 (0, 0)) (zD BK121) NB121_0.out (by simp)); replace HK := zA (KeepBut.trans (zK1 HK GW121) hk (.inl rfl)); replace HB := zA (hb); replace HI0 := zA (hi); (try clear hb); (try clear hb2); (try clear hk); (try clear hi)) | ((with_reducible refine gate_callee (f := 52) rfl ?_); refine goesL_ (some 71) rfl rfl Try.func52 (by kernel_rfl) rfl #[.pointer (some ⟨g, 0, none⟩), .int .i64 ji57] rfl (by (try simp only [List.map_toArray, List.map_cons, List.map_nil]); first | done | (simp only [hji57]; rfl) | rfl | (simp only [List.length_drop, List.length_take]; rfl)) ?_; (with_reducible refine (spec_l1Below.calls g s0_0 t123 t124 ji57 t137 t138 t139 w0 _ ?side1 ?side2 A58.out).mono ?_); (case side1 => exact zI1 HI0 NB0_121); (case side2 => exact zB2 HB (zA (IsS77.ge HI0.out)) GE121); rintro e w61 ⟨rfl, hi, hb, hk⟩; refine ⟨_, rfl, ?_⟩; replace BK121 := zA (KeepBut.blk hk (g' := gb121) (o := .cells #[.int .i64 0, .int .i64 0] 25 (0, 0)) (zD BK121) NB121_0.out (by simp)); replace HK := zA (KeepBut.trans (zK1 HK GW121) hk (.inl rfl)); replace HB := zA (hb); replace HI0 := zA (hi); (try clear hb); (try clear hb2); (try clear hk); (try clear hi)))
      go_loopg [5, 9] k (fun kq v5 v9 w' => ∃ (x5_1 : Int) (x9_1 : Int), v5 = .int .i64 x5_1 ∧ v9 = .int .i64 x9_1 ∧ Aside0 (spec_l2Draw.l2 kq a1 x5_1 t137 x9_1 s0_0 t138 t139 = some (r1, r2, r3, r4)) ∧ Aside0 (kq ≤ k) ∧ Aside0 (w'.heap[gb121]? = some (.cells #[.int .i64 0, .int .i64 0] 25 (0, 0))) ∧ Aside0 (IsS77 w0 w' g s0_0 t138 t139) ∧ Aside0 (KeepBut w w' g none) ∧ Aside0 (Below w0.heap.size w0 w'))
      case atStart => exact ⟨(0), (0), zS, zS, H', ⟨Nat.le_refl _⟩, ⟨zD BK121⟩, ⟨zI1 HI0 NB0_121⟩, ⟨zK1 HK GW121⟩, ⟨zB2 HB (zA (IsS77.ge HI0.out)) GE121⟩⟩
      case round =>
       clear H'
       try clear hji57
       try clear hji57_
       try clear hji57z
       try clear hji57u
       try clear hji57v
       try clear hji57y
       try clear hji57x
       try clear hji57w
       try clear hji57s
       try clear c4
       try clear c4b0
       try clear c4b1
       try clear c21
       try clear c21b0
       try clear c21b1
       try clear c38
       try clear c38b0
       try clear c38b1
       try clear c55
       try clear c55b0
       try clear c55b1
       try clear c56
       try clear c56b0
       try clear c56b1
       obtain ⟨x5_1, x9_1, rfl, rfl, HA, HK1, BK121, HI0, HK, HB⟩ := hrel
       cases gk with
       | zero => exact absurd HA.out (by simp [spec_l2Draw.l2])
       | succ k1 =>
        have H := HA.out
        clear HA
        simp only [spec_l2Draw.l2] at H
        by_cases c62 : 0 ≤ a1
        ·rw [if_pos c62] at H
         have c62b0 := eq_true c62
         have c62b1 : decide (0 ≤ a1) = true := decide_eq_true c62
         clear c62
         obtain ⟨ji63, hji63⟩ : ∃ j_ : Int, (shl .i64 1 a1) = j_ := ⟨_, rfl⟩
         replace H : (if x9_1 < (ji63) then (if (Go.bits .and .i64 x9_1 t137) = t137 then (if 0 ≤ x9_1 then (spec_l2Draw.l2 k1 a1 (Go.bits .or .i64 x5_1 (shl .i64 1 x9_1)) t137 (wrap64 (x9_1 + 1)) s0_0 t138 t139) else (none)) else (spec_l2Draw.l2 k1 a1 x5_1 t137 (wrap64 (x9_1 + 1)) s0_0 t138 t139)) else (if a1 = 0 then ((spec_l2Full.f a1).bind fun t140 => (some (a1, Go.bits .and .i64 (Go.bits .and .i64 x5_1 1) t140, t138, t139))) else ((spec_l2Full.f a1).bind fun t141 => (some (a1, Go.bits .and .i64 x5_1 t141, t138, t139))))) = some (r1, r2, r3, r4) := by first | (rw [hji63] at H; exact H) | (simp only [hji63] at H ⊢; exact H)
         have hji63_ : (IntKind.i64.wrap (1 * 2 ^ min a1.toNat 64)) = ji63 := hji63
         have hji63z : a1 ≤ 64 → (IntKind.i64.wrap (1 * 2 ^ a1.toNat)) = ji63 := shl_small hji63
         have hji63u : (IntKind.i64.wrap (2 ^ min a1.toNat 64)) = ji63 := by have h_ := hji63_; rw [Int.one_mul] at h_; exact h_
         have hji63v : a1 ≤ 64 → (IntKind.i64.wrap (2 ^ a1.toNat)) = ji63 := fun hle_ => by have h_ := hji63z hle_; rw [Int.one_mul] at h_; exact h_
         have hji63y : (wrap64 (1 * 2 ^ min a1.toNat 64)) = ji63 := (i64_w _).symm.trans hji63_
         have hji63x : a1 ≤ 64 → (wrap64 (1 * 2 ^ a1.toNat)) = ji63 := fun h_ => (i64_w _).symm.trans (hji63z h_)
         have hji63w : (wrap64 (2 ^ min a1.toNat 64)) = ji63 := by have h_ := hji63y; rw [Int.one_mul] at h_; exact h_
         have hji63s : a1 ≤ 64 → (wrap64 (2 ^ a1.toNat)) = ji63 := fun hle_ => by have h_ := hji63x hle_; rw [Int.one_mul] at h_; exact h_
         by_cases c64 : x9_1 < (ji63)
         ·rw [if_pos c64] at H
          have c64b0 : decide (x9_1 < (ji63)) = true := decide_eq_true c64
          clear c64
          by_cases c65 : (Go.bits .and .i64 x9_1 t137) = t137
          ·rw [if_pos c65] at H
           have c65b0 : ((Go.bits .and .i64 x9_1 t137) == t137) = true := beq_iff_eq.mpr c65
           have c65b1 : ((Go.bits .and .i64 x9_1 t137) != t137) = false := bne_eq_false_iff_eq.mpr c65
           clear c65
           by_cases c66 : 0 ≤ x9_1
           ·rw [if_pos c66] at H
            have c66b0 := eq_true c66
            have c66b1 : decide (0 ≤ x9_1) = true := decide_eq_true c66
            clear c66
            obtain ⟨ji67, hji67⟩ : ∃ j_ : Int, (shl .i64 1 x9_1) = j_ := ⟨_, rfl⟩
            replace H : (spec_l2Draw.l2 k1 a1 (Go.bits .or .i64 x5_1 (ji67)) t137 (wrap64 (x9_1 + 1)) s0_0 t138 t139) = some (r1, r2, r3, r4) := by first | (rw [hji67] at H; exact H) | (simp only [hji67] at H ⊢; exact H)
            have hji67_ : (IntKind.i64.wrap (1 * 2 ^ min x9_1.toNat 64)) = ji67 := hji67
            have hji67z : x9_1 ≤ 64 → (IntKind.i64.wrap (1 * 2 ^ x9_1.toNat)) = ji67 := shl_small hji67
            have hji67u : (IntKind.i64.wrap (2 ^ min x9_1.toNat 64)) = ji67 := by have h_ := hji67_; rw [Int.one_mul] at h_; exact h_
            have hji67v : x9_1 ≤ 64 → (IntKind.i64.wrap (2 ^ x9_1.toNat)) = ji67 := fun hle_ => by have h_ := hji67z hle_; rw [Int.one_mul] at h_; exact h_
            have hji67y : (wrap64 (1 * 2 ^ min x9_1.toNat 64)) = ji67 := (i64_w _).symm.trans hji67_
            have hji67x : x9_1 ≤ 64 → (wrap64 (1 * 2 ^ x9_1.toNat)) = ji67 := fun h_ => (i64_w _).symm.trans (hji67z h_)
            have hji67w : (wrap64 (2 ^ min x9_1.toNat 64)) = ji67 := by have h_ := hji67y; rw [Int.one_mul] at h_; exact h_
            have hji67s : x9_1 ≤ 64 → (wrap64 (2 ^ x9_1.toNat)) = ji67 := fun hle_ => by have h_ := hji67x hle_; rw [Int.one_mul] at h_; exact h_
            have H' := zA H
            clear H
            go_wp2
            go_roundg k1
            case measure => have := HK1.out; omega
            case rel => exact ⟨(Go.bits .or .i64 x5_1 (ji67)), (wrap64 (x9_1 + 1)), (by first | rfl | (simp; done) | (simp only [← hji67] <;> (first | rfl | simp)) | (simp [*]; done)), zS, H', ⟨by have := HK1.out; omega⟩, ⟨zD BK121⟩, ⟨zI1 HI0 NB0_121⟩, ⟨zK1 HK GW121⟩, ⟨zB2 HB (zA (IsS77.ge HI0.out)) GE121⟩⟩
           ·rw [if_neg c66] at H
            exact absurd H (by simp)
          ·rw [if_neg c65] at H
           have c65b0 : ((Go.bits .and .i64 x9_1 t137) == t137) = false := beq_eq_false_iff_ne.mpr c65
           have c65b1 : ((Go.bits .and .i64 x9_1 t137) != t137) = true := bne_iff_ne.mpr c65
           have H' := zA H
           clear H
           go_wp2
           go_roundg k1
           case measure => have := HK1.out; omega
           case rel => exact ⟨(x5_1), (wrap64 (x9_1 + 1)), zS, zS, H', ⟨by have := HK1.out; omega⟩, ⟨zD BK121⟩, ⟨zI1 HI0 NB0_121⟩, ⟨zK1 HK GW121⟩, ⟨zB2 HB (zA (IsS77.ge HI0.out)) GE121⟩⟩
         ·rw [if_neg c64] at H
          have c64b0 : decide (x9_1 < (ji63)) = false := decide_eq_false c64
          clear c64
          by_cases c68 : a1 = 0
          ·rw [if_pos c68] at H
           have c68b0 : (a1 == 0) = true := beq_iff_eq.mpr c68
           have hz68z := hji63z (by omega)
           have hz68v := hji63v (by omega)
           have hz68x := hji63x (by omega)
           have hz68s := hji63s (by omega)
           have c68b1 : (a1 != 0) = false := bne_eq_false_iff_eq.mpr c68
           clear c68
           replace H := Option.bind_eq_some_iff.mp H
           obtain ⟨t140, A690, H⟩ := H
           replace H : (some (a1, Go.bits .and .i64 (Go.bits .and .i64 x5_1 1) t140, t138, t139)) = some (r1, r2, r3, r4) := H
           have A69 := zA A690
           clear A690
           simp only [Option.some.injEq, Prod.mk.injEq] at H
           obtain ⟨rfl, rfl, rfl, rfl⟩ := H
           go_wp2_with (first | ((with_reducible refine gate_callee (f := 75) rfl ?_); refine goesL_ (some 94) rfl rfl Try.func75 (by kernel_rfl) rfl #[.int .i64 a1] rfl zM ?_; (with_reducible refine (spec_l2Full.calls a1 t140 _ A69.out).mono ?_); rintro e w' ⟨rfl, ⟨nd, rfl⟩⟩; refine ⟨_, rfl, ?_⟩; (try (rw [drewN_self wr]; generalize hq_ : World.drewN wr _ = wr; have n0_ : Aside0 (wr.heap[gb121]? = some (.cells #[.int .i64 0, .int .i64 0] 25 (0, 0))) := ⟨by rw [← hq_]; exact (zD BK121)⟩; have n1_ : Aside0 (IsS77 w0 wr g s0_0 t138 t139) := ⟨by rw [← hq_]; exact (zI1 HI0 NB0_121)⟩; have n2_ : Aside0 (KeepBut w wr g none) := ⟨by rw [← hq_]; exact (zK1 HK GW121)⟩; have n3_ : Aside0 (Below w0.heap.size w0 wr) := ⟨by rw [← hq_]; exact (zB2 HB (zA (IsS77.ge HI0.out)) GE121)⟩; clear BK121 HI0 HK HB hq_; have BK121 := n0_; have HI0 := n1_; have HK := n2_; have HB := n3_; clear n0_ n1_ n2_ n3_)); have hnb70 := NB121_0.out; have hnc70 := NB0_121.out; have hcz71_0 := zc0 BK121; have hcz71_1 := zc1 BK121; have hfz71_0 := blk_frozen BK121.out 0; have hfz71_1 := blk_frozen BK121.out 1))
           refine bodyPost_ret (results_cell_row rfl _ _ gb121 25 #[.int .i64 a1, .int .i64 (Go.bits .and .i64 (Go.bits .and .i64 x5_1 1) t140)] (0, 0) _ rfl (zP BK121) Try.underlying25 rfl (by kernel_rfl)) rfl ?_
           exact ⟨by first | rfl | (simp [errW_none, errW_some] <;> rfl) | (simp only [← hji57, ← hji63]; first | rfl | (simp [errW_none, errW_some] <;> rfl)) | (simp [*, errW_none, errW_some] <;> rfl), zI1 HI0 NB0_121, zB2 HB (zA (IsS77.ge HI0.out)) GE121, zK1 HK GW121⟩
          ·rw [if_neg c68] at H
           have c68b0 : (a1 == 0) = false := beq_eq_false_iff_ne.mpr c68
           have c68b1 : (a1 != 0) = true := bne_iff_ne.mpr c68
           replace H := Option.bind_eq_some_iff.mp H
           obtain ⟨t141, A720, H⟩ := H
           replace H : (some (a1, Go.bits .and .i64 x5_1 t141, t138, t139)) = some (r1, r2, r3, r4) := H
           have A72 := zA A720
           clear A720
           simp only [Option.some.injEq, Prod.mk.injEq] at H
           obtain ⟨rfl, rfl, rfl, rfl⟩ := H
           go_wp2_with (first | ((with_reducible refine gate_callee (f := 75) rfl ?_); refine goesL_ (some 94) rfl rfl Try.func75 (by kernel_rfl) rfl #[.int .i64 a1] rfl zM ?_; (with_reducible refine (spec_l2Full.calls a1 t141 _ A72.out).mono ?_); rintro e w' ⟨rfl, ⟨nd, rfl⟩⟩; refine ⟨_, rfl, ?_⟩; (try (rw [drewN_self wr]; generalize hq_ : World.drewN wr _ = wr; have n0_ : Aside0 (wr.heap[gb121]? = some (.cells #[.int .i64 0, .int .i64 0] 25 (0, 0))) := ⟨by rw [← hq_]; exact (zD BK121)⟩; have n1_ : Aside0 (IsS77 w0 wr g s0_0 t138 t139) := ⟨by rw [← hq_]; exact (zI1 HI0 NB0_121)⟩; have n2_ : Aside0 (KeepBut w wr g none) := ⟨by rw [← hq_]; exact (zK1 HK GW121)⟩; have n3_ : Aside0 (Below w0.heap.size w0 wr) := ⟨by rw [← hq_]; exact (zB2 HB (zA (IsS77.ge HI0.out)) GE121)⟩; clear BK121 HI0 HK HB hq_; have BK121 := n0_; have HI0 := n1_; have HK := n2_; have HB := n3_; clear n0_ n1_ n2_ n3_)); have hnb73 := NB121_0.out; have hnc73 := NB0_121.out; have hcz74_0 := zc0 BK121; have hcz74_1 := zc1 BK121; have hfz74_0 := blk_frozen BK121.out 0; have hfz74_1 := blk_frozen BK121.out 1))
           refine bodyPost_ret (results_cell_row rfl _ _ gb121 25 #[.int .i64 a1, .int .i64 (Go.bits .and .i64 x5_1 t141)] (0, 0) _ rfl (zP BK121) Try.underlying25 rfl (by kernel_rfl)) rfl ?_
           exact ⟨by first | rfl | (simp [errW_none, errW_some] <;> rfl) | (simp only [← hji57, ← hji63]; first | rfl | (simp [errW_none, errW_some] <;> rfl)) | (simp [*, errW_none, errW_some] <;> rfl), zI1 HI0 NB0_121, zB2 HB (zA (IsS77.ge HI0.out)) GE121, zK1 HK GW121⟩
        ·rw [if_neg c62] at H
         exact absurd H (by simp)
     ·rw [if_neg c56] at H
      exact absurd H (by simp)
    ·rw [if_neg c55] at H
     have c55b0 : (t122 == 3) = false := beq_eq_false_iff_ne.mpr c55
     have c55b1 : (t122 != 3) = true := bne_iff_ne.mpr c55
     have H' := zA H
     clear H
     go_enter Try.func61, Try.ntmps61
     go_wp2_with (first | ((with_reducible refine gate_dst (N := 4) rfl ?_); refine box_event ?hg (N := 4) ?hd (cs := #[.int .i64 0, .int .i64 0]) (t := 25) ?hr ?_; (case hd => rfl); (case hg => rfl); (case hr => exact zH); intro gb121 hg w75 hbox hb; have BK121 := zA (hbox); have GW121 := zA ((by rw [hg]; exact (keep_size (w := w) (g := g) (row := none) (zK HK)) : w.heap.size ≤ gb121)); have GE121 := zA ((Nat.le_trans HW0.out (by rw [hg]; exact (keep_size (w := w) (g := g) (row := none) (zK HK)) : w.heap.size ≤ gb121) : w0.heap.size ≤ gb121)); have NB0_121 := zA ((by rw [hg]; exact Nat.ne_of_lt (IsS77.lt (show IsS77 w0 _ g s0_0 s0_1 s0_2 from zI HI0)) : g ≠ gb121)); have NB121_0 := zA ((by rw [hg]; exact Nat.ne_of_gt (IsS77.lt (show IsS77 w0 _ g s0_0 s0_1 s0_2 from zI HI0)) : gb121 ≠ g)); replace HK := zA (KeepBut.trans (zK HK) (KeepBut.of_below hb g none) (.inl rfl)); replace HB := zA (below_step (zB1 HB (zA (IsS77.ge HI0.out))) hb); replace HI0 := zA (IsS77.below (zI HI0) hb); clear hb hbox hg) | ((with_reducible refine gate_callee (f := 52) rfl ?_); refine goesL_ (some 12) rfl rfl Try.func52 (by kernel_rfl) rfl #[.pointer (some ⟨g, 0, none⟩), .int .i64 6] rfl zM ?_; (with_reducible refine (spec_l1Below.calls g s0_0 s0_1 s0_2 6 t122 t123 t124 w0 _ ?side1 ?side2 A3.out).mono ?_); (case side1 => exact zI1 HI0 NB0_121); (case side2 => exact zB2 HB (zA (IsS77.ge HI0.out)) GE121); rintro e w76 ⟨rfl, hi, hb, hk⟩; refine ⟨_, rfl, ?_⟩; replace BK121 := zA (KeepBut.blk hk (g' := gb121) (o := .cells #[.int .i64 0, .int .i64 0] 25 (0, 0)) (zD BK121) NB121_0.out (by simp)); replace HK := zA (KeepBut.trans (zK1 HK GW121) hk (.inl rfl)); replace HB := zA (hb); replace HI0 := zA (hi); (try clear hb); (try clear hb2); (try clear hk); (try clear hi)))
     go_loopg [5, 10] k (fun kq v5 v10 w' => ∃ (x5_1 : Int) (x10_1 : Int) (x1001_1 : Int) (x1002_1 : Int), v5 = .int .i64 x5_1 ∧ v10 = .int .i64 x10_1 ∧ Aside0 (spec_l2Draw.l3 kq a1 x5_1 x10_1 s0_0 x1001_1 x1002_1 = some (r1, r2, r3, r4)) ∧ Aside0 (kq ≤ k) ∧ Aside0 (w'.heap[gb121]? = some (.cells #[.int .i64 0, .int .i64 0] 25 (0, 0))) ∧ Aside0 (IsS77 w0 w' g s0_0 x1001_1 x1002_1) ∧ Aside0 (KeepBut w w' g none) ∧ Aside0 (Below w0.heap.size w0 w'))
     case atStart => exact ⟨(0), (0), (t123), (t124), zS, zS, H', ⟨Nat.le_refl _⟩, ⟨zD BK121⟩, ⟨zI1 HI0 NB0_121⟩, ⟨zK1 HK GW121⟩, ⟨zB2 HB (zA (IsS77.ge HI0.out)) GE121⟩⟩
     case round =>
      clear H'
      try clear c4
      try clear c4b0
      try clear c4b1
      try clear c21
      try clear c21b0
      try clear c21b1
      try clear c38
      try clear c38b0
      try clear c38b1
      try clear c55
      try clear c55b0
      try clear c55b1
      obtain ⟨x5_1, x10_1, x1001_1, x1002_1, rfl, rfl, HA, HK1, BK121, HI0, HK, HB⟩ := hrel
      cases gk with
      | zero => exact absurd HA.out (by simp [spec_l2Draw.l3])
      | succ k1 =>
       have H := HA.out
       clear HA
       simp only [spec_l2Draw.l3] at H
       by_cases c77 : 0 ≤ a1
       ·rw [if_pos c77] at H
        have c77b0 := eq_true c77
        have c77b1 : decide (0 ≤ a1) = true := decide_eq_true c77
        clear c77
        obtain ⟨ji78, hji78⟩ : ∃ j_ : Int, (shl .i64 1 a1) = j_ := ⟨_, rfl⟩
        replace H : (if x10_1 < (ji78) then ((spec_l1Below.f s0_0 x1001_1 x1002_1 2).bind fun bt142 => (if 0 ≤ x10_1 then (spec_l2Draw.l3 k1 a1 (Go.bits .or .i64 x5_1 (shl .i64 bt142.1 x10_1)) (wrap64 (x10_1 + 1)) s0_0 bt142.2.1 bt142.2.2) else (none))) else (if a1 = 0 then ((spec_l2Full.f a1).bind fun t145 => (some (a1, Go.bits .and .i64 (Go.bits .and .i64 x5_1 1) t145, x1001_1, x1002_1))) else ((spec_l2Full.f a1).bind fun t146 => (some (a1, Go.bits .and .i64 x5_1 t146, x1001_1, x1002_1))))) = some (r1, r2, r3, r4) := by first | (rw [hji78] at H; exact H) | (simp only [hji78] at H ⊢; exact H)
        have hji78_ : (IntKind.i64.wrap (1 * 2 ^ min a1.toNat 64)) = ji78 := hji78
        have hji78z : a1 ≤ 64 → (IntKind.i64.wrap (1 * 2 ^ a1.toNat)) = ji78 := shl_small hji78
        have hji78u : (IntKind.i64.wrap (2 ^ min a1.toNat 64)) = ji78 := by have h_ := hji78_; rw [Int.one_mul] at h_; exact h_
        have hji78v : a1 ≤ 64 → (IntKind.i64.wrap (2 ^ a1.toNat)) = ji78 := fun hle_ => by have h_ := hji78z hle_; rw [Int.one_mul] at h_; exact h_
        have hji78y : (wrap64 (1 * 2 ^ min a1.toNat 64)) = ji78 := (i64_w _).symm.trans hji78_
        have hji78x : a1 ≤ 64 → (wrap64 (1 * 2 ^ a1.toNat)) = ji78 := fun h_ => (i64_w _).symm.trans (hji78z h_)
        have hji78w : (wrap64 (2 ^ min a1.toNat 64)) = ji78 := by have h_ := hji78y; rw [Int.one_mul] at h_; exact h_
        have hji78s : a1 ≤ 64 → (wrap64 (2 ^ a1.toNat)) = ji78 := fun hle_ => by have h_ := hji78x hle_; rw [Int.one_mul] at h_; exact h_
        by_cases c79 : x10_1 < (ji78)
        ·rw [if_pos c79] at H
         have c79b0 : decide (x10_1 < (ji78)) = true := decide_eq_true c79
         clear c79
         replace H := Option.bind_eq_some_iff.mp H
         obtain ⟨⟨t142, t143, t144⟩, A800, H⟩ := H
         replace H : (if 0 ≤ x10_1 then (spec_l2Draw.l3 k1 a1 (Go.bits .or .i64 x5_1 (shl .i64 t142 x10_1)) (wrap64 (x10_1 + 1)) s0_0 t143 t144) else (none)) = some (r1, r2, r3, r4) := H
         have A80 := zA A800
         clear A800
         by_cases c81 : 0 ≤ x10_1
         ·rw [if_pos c81] at H
          have c81b0 := eq_true c81
          have c81b1 : decide (0 ≤ x10_1) = true := decide_eq_true c81
          clear c81
          obtain ⟨ji82, hji82⟩ : ∃ j_ : Int, (shl .i64 t142 x10_1) = j_ := ⟨_, rfl⟩
          replace H : (spec_l2Draw.l3 k1 a1 (Go.bits .or .i64 x5_1 (ji82)) (wrap64 (x10_1 + 1)) s0_0 t143 t144) = some (r1, r2, r3, r4) := by first | (rw [hji82] at H; exact H) | (simp only [hji82] at H ⊢; exact H)
          (try rw [hji82] at A80)
          have hji82_ : (IntKind.i64.wrap (t142 * 2 ^ min x10_1.toNat 64)) = ji82 := hji82
          have hji82z : x10_1 ≤ 64 → (IntKind.i64.wrap (t142 * 2 ^ x10_1.toNat)) = ji82 := shl_small hji82
          have hji82y : (wrap64 (t142 * 2 ^ min x10_1.toNat 64)) = ji82 := (i64_w _).symm.trans hji82_
          have hji82x : x10_1 ≤ 64 → (wrap64 (t142 * 2 ^ x10_1.toNat)) = ji82 := fun h_ => (i64_w _).symm.trans (hji82z h_)
          have H' := zA H
          clear H
          go_wp2_with (first | ((with_reducible refine gate_callee (f := 52) rfl ?_); refine goesL_ (some 21) rfl rfl Try.func52 (by kernel_rfl) rfl #[.pointer (some ⟨g, 0, none⟩), .int .i64 2] rfl zM ?_; (with_reducible refine (spec_l1Below.calls g s0_0 x1001_1 x1002_1 2 t142 t143 t144 w0 _ ?side1 ?side2 A80.out).mono ?_); (case side1 => exact zI1 HI0 NB0_121); (case side2 => exact zB2 HB (zA (IsS77.ge HI0.out)) GE121); rintro e w83 ⟨rfl, hi, hb, hk⟩; refine ⟨_, rfl, ?_⟩; replace BK121 := zA (KeepBut.blk hk (g' := gb121) (o := .cells #[.int .i64 0, .int .i64 0] 25 (0, 0)) (zD BK121) NB121_0.out (by simp)); replace HK := zA (KeepBut.trans (zK1 HK GW121) hk (.inl rfl)); replace HB := zA (hb); replace HI0 := zA (hi); (try clear hb); (try clear hb2); (try clear hk); (try clear hi)))
          go_roundg k1
          case measure => have := HK1.out; omega
          case rel => exact ⟨(Go.bits .or .i64 x5_1 (ji82)), (wrap64 (x10_1 + 1)), (t143), (t144), (by first | rfl | (simp; done) | (simp only [← hji82] <;> (first | rfl | simp)) | (simp [*]; done)), zS, H', ⟨by have := HK1.out; omega⟩, ⟨zD BK121⟩, ⟨zI1 HI0 NB0_121⟩, ⟨zK1 HK GW121⟩, ⟨zB2 HB (zA (IsS77.ge HI0.out)) GE121⟩⟩
         ·rw [if_neg c81] at H
          exact absurd H (by simp)
        ·rw [if_neg c79] at H
         have c79b0 : decide (x10_1 < (ji78)) = false := decide_eq_false c79
         clear c79
         by_cases c84 : a1 = 0
         ·rw [if_pos c84] at H
          have c84b0 : (a1 == 0) = true := beq_iff_eq.mpr c84
          have hz84z := hji78z (by omega)
          have hz84v := hji78v (by omega)
          have hz84x := hji78x (by omega)
          have hz84s := hji78s (by omega)
          have c84b1 : (a1 != 0) = false := bne_eq_false_iff_eq.mpr c84
          clear c84
          replace H := Option.bind_eq_some_iff.mp H
          obtain ⟨t145, A850, H⟩ := H
          replace H : (some (a1, Go.bits .and .i64 (Go.bits .and .i64 x5_1 1) t145, x1001_1, x1002_1)) = some (r1, r2, r3, r4) := H
          have A85 := zA A850
          clear A850
          simp only [Option.some.injEq, Prod.mk.injEq] at H
          obtain ⟨rfl, rfl, rfl, rfl⟩ := H
          go_wp2_with (first | ((with_reducible refine gate_callee (f := 75) rfl ?_); refine goesL_ (some 94) rfl rfl Try.func75 (by kernel_rfl) rfl #[.int .i64 a1] rfl zM ?_; (with_reducible refine (spec_l2Full.calls a1 t145 _ A85.out).mono ?_); rintro e w' ⟨rfl, ⟨nd, rfl⟩⟩; refine ⟨_, rfl, ?_⟩; (try (rw [drewN_self wr]; generalize hq_ : World.drewN wr _ = wr; have n0_ : Aside0 (wr.heap[gb121]? = some (.cells #[.int .i64 0, .int .i64 0] 25 (0, 0))) := ⟨by rw [← hq_]; exact (zD BK121)⟩; have n1_ : Aside0 (IsS77 w0 wr g s0_0 x1001_1 x1002_1) := ⟨by rw [← hq_]; exact (zI1 HI0 NB0_121)⟩; have n2_ : Aside0 (KeepBut w wr g none) := ⟨by rw [← hq_]; exact (zK1 HK GW121)⟩; have n3_ : Aside0 (Below w0.heap.size w0 wr) := ⟨by rw [← hq_]; exact (zB2 HB (zA (IsS77.ge HI0.out)) GE121)⟩; clear BK121 HI0 HK HB hq_; have BK121 := n0_; have HI0 := n1_; have HK := n2_; have HB := n3_; clear n0_ n1_ n2_ n3_)); have hnb86 := NB121_0.out; have hnc86 := NB0_121.out; have hcz87_0 := zc0 BK121; have hcz87_1 := zc1 BK121; have hfz87_0 := blk_frozen BK121.out 0; have hfz87_1 := blk_frozen BK121.out 1))
          refine bodyPost_ret (results_cell_row rfl _ _ gb121 25 #[.int .i64 a1, .int .i64 (Go.bits .and .i64 (Go.bits .and .i64 x5_1 1) t145)] (0, 0) _ rfl (zP BK121) Try.underlying25 rfl (by kernel_rfl)) rfl ?_
          exact ⟨by first | rfl | (simp [errW_none, errW_some] <;> rfl) | (simp only [← hji78]; first | rfl | (simp [errW_none, errW_some] <;> rfl)) | (simp [*, errW_none, errW_some] <;> rfl), zI1 HI0 NB0_121, zB2 HB (zA (IsS77.ge HI0.out)) GE121, zK1 HK GW121⟩
         ·rw [if_neg c84] at H
          have c84b0 : (a1 == 0) = false := beq_eq_false_iff_ne.mpr c84
          have c84b1 : (a1 != 0) = true := bne_iff_ne.mpr c84
          replace H := Option.bind_eq_some_iff.mp H
          obtain ⟨t146, A880, H⟩ := H
          replace H : (some (a1, Go.bits .and .i64 x5_1 t146, x1001_1, x1002_1)) = some (r1, r2, r3, r4) := H
          have A88 := zA A880
          clear A880
          simp only [Option.some.injEq, Prod.mk.injEq] at H
          obtain ⟨rfl, rfl, rfl, rfl⟩ := H
          go_wp2_with (first | ((with_reducible refine gate_callee (f := 75) rfl ?_); refine goesL_ (some 94) rfl rfl Try.func75 (by kernel_rfl) rfl #[.int .i64 a1] rfl zM ?_; (with_reducible refine (spec_l2Full.calls a1 t146 _ A88.out).mono ?_); rintro e w' ⟨rfl, ⟨nd, rfl⟩⟩; refine ⟨_, rfl, ?_⟩; (try (rw [drewN_self wr]; generalize hq_ : World.drewN wr _ = wr; have n0_ : Aside0 (wr.heap[gb121]? = some (.cells #[.int .i64 0, .int .i64 0] 25 (0, 0))) := ⟨by rw [← hq_]; exact (zD BK121)⟩; have n1_ : Aside0 (IsS77 w0 wr g s0_0 x1001_1 x1002_1) := ⟨by rw [← hq_]; exact (zI1 HI0 NB0_121)⟩; have n2_ : Aside0 (KeepBut w wr g none) := ⟨by rw [← hq_]; exact (zK1 HK GW121)⟩; have n3_ : Aside0 (Below w0.heap.size w0 wr) := ⟨by rw [← hq_]; exact (zB2 HB (zA (IsS77.ge HI0.out)) GE121)⟩; clear BK121 HI0 HK HB hq_; have BK121 := n0_; have HI0 := n1_; have HK := n2_; have HB := n3_; clear n0_ n1_ n2_ n3_)); have hnb89 := NB121_0.out; have hnc89 := NB0_121.out; have hcz90_0 := zc0 BK121; have hcz90_1 := zc1 BK121; have hfz90_0 := blk_frozen BK121.out 0; have hfz90_1 := blk_frozen BK121.out 1))
          refine bodyPost_ret (results_cell_row rfl _ _ gb121 25 #[.int .i64 a1, .int .i64 (Go.bits .and .i64 x5_1 t146)] (0, 0) _ rfl (zP BK121) Try.underlying25 rfl (by kernel_rfl)) rfl ?_
          exact ⟨by first | rfl | (simp [errW_none, errW_some] <;> rfl) | (simp only [← hji78]; first | rfl | (simp [errW_none, errW_some] <;> rfl)) | (simp [*, errW_none, errW_some] <;> rfl), zI1 HI0 NB0_121, zB2 HB (zA (IsS77.ge HI0.out)) GE121, zK1 HK GW121⟩
       ·rw [if_neg c77] at H
        exact absurd H (by simp)

end Go.Proofs.Ytfiejicdlaknnaa.P

-- hjiw_mended