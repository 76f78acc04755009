/- The functions that this seat's laws reach, each as a plain Lean function, and the walk of each; written by a program over the kit's print. No conditions but those that stand in the theorems. -/
import Derived.Test.YtfiejicdlaknnaaK2
import Derived.Test.YtfiejicdlaknnaaK3
import Derived.Test.YtfiejicdlaknnaaK4
namespace Go.Proofs.Ytfiejicdlaknnaa.P
open Go.RowKit Go.Proofs.YtfiejicdlaknnaaW.PrintWords Go.Proofs.YtfiejicdlaknnaaW.PrintLast Go.Proofs.YtfiejicdlaknnaaW.PrintMore
attribute [local go_sem] max2_int min2_int max_two min_two max_three min_three max_four min_four   -- for this text's walks alone
set_option linter.unusedVariables false
set_option linter.unusedSimpArgs false

attribute [local go_sem] fld25_0 fld25_1
/-! ### impl_ParseTerm: function 18 -/
def impl_ParseTerm.l0 : Nat → Int → ByteArray → Int → Int → Int → Int → Int → Option (Int × Int × Bool)
 | 0, _, _, _, _, _, _, _ => none
 | k + 1, x0, x1, x7, x12, x13, x427000, x427001 => if x13 < x12 then (if 0 ≤ x13 then (if x13 < (x1.size : Int) then (if (bt x1 x13) = 33 then (impl_ParseTerm.l0 k x0 x1 0 x12 (wrap64 (x13 + 1)) x427000 x427001) else ((impl_isLetter.f (bt x1 x13)).bind fun t429 => (if t429 = true then (impl_ParseTerm.l0 k x0 x1 1 x12 (wrap64 (x13 + 1)) (Go.bits .or .i64 x427000 (shl .i64 1 (((bt x1 x13) - 97) % 256))) (Go.bits .or .i64 x427001 (shl .i64 x7 (((bt x1 x13) - 97) % 256)))) else (impl_ParseTerm.l0 k x0 x1 x7 x12 (wrap64 (x13 + 1)) x427000 x427001)))) else (none)) else (none)) else (if x1.toList = ([] : List UInt8) then (some (0, 0, false)) else ((impl_FormatTerm.f k x0 x427000 x427001).bind fun t428 => (if t428.toList = x1.toList then (some (x427000, x427001, true)) else (some (0, 0, false)))))
def impl_ParseTerm.f (k : Nat) (a0 : Int) (a1 : ByteArray) : Option (Int × Int × Bool) := if a1.toList = ([49] : List UInt8) then (if a1.toList = ([] : List UInt8) then (some (0, 0, false)) else ((impl_FormatTerm.f k a0 0 0).bind fun t427 => (if t427.toList = a1.toList then (some (0, 0, true)) else (some (0, 0, false))))) else (impl_ParseTerm.l0 k a0 a1 1 (a1.size : Int) 0 0 0)
theorem impl_ParseTerm.mono_l : ∀ k, (∀ y0 y1 y2 y3 y4 y5 y6, LeO (impl_ParseTerm.l0 k y0 y1 y2 y3 y4 y5 y6) (impl_ParseTerm.l0 (k + 1) y0 y1 y2 y3 y4 y5 y6))
 | 0 => fun _ _ _ _ _ _ _ r h => by simp [impl_ParseTerm.l0] at h
 | k + 1 => by
  have ih0 := impl_ParseTerm.mono_l k
  ·intro y0 y1 y2 y3 y4 y5 y6
   unfold impl_ParseTerm.l0
   repeat' first
   | (with_reducible exact ih0 _ _ _ _ _ _ _)
   | (with_reducible exact impl_FormatTerm.mono _ _ _ _)
   | (with_reducible exact LeO.refl _)
   | (with_reducible exact LeO.none _)
   | (with_reducible refine LeO.ite ?_ ?_)
   | (with_reducible refine LeO.bind ?_ (fun _ => ?_))
   | exact ih0 _ _ _ _ _ _ _
   | exact impl_FormatTerm.mono _ _ _ _
   | exact LeO.none _
   | refine LeO.ite ?_ ?_
   | refine LeO.bind ?_ (fun _ => ?_)
theorem impl_ParseTerm.mono : ∀ a0 a1 k, LeO (impl_ParseTerm.f k a0 a1) (impl_ParseTerm.f (k + 1) a0 a1) := by
 intro a0 a1 k
 have ih0 := impl_ParseTerm.mono_l k
 unfold impl_ParseTerm.f
 repeat' first
   | (with_reducible exact ih0 _ _ _ _ _ _ _)
   | (with_reducible exact impl_FormatTerm.mono _ _ _ _)
   | (with_reducible exact LeO.refl _)
   | (with_reducible exact LeO.none _)
   | (with_reducible refine LeO.ite ?_ ?_)
   | (with_reducible refine LeO.bind ?_ (fun _ => ?_))
   | exact ih0 _ _ _ _ _ _ _
   | exact impl_FormatTerm.mono _ _ _ _
   | exact LeO.none _
   | refine LeO.ite ?_ ?_
   | refine LeO.bind ?_ (fun _ => ?_)
def impl_ParseTerm.T10 : Bool × List (List Nat × List Nat) := (true, [([], []), ([0], [0]), ([], []), ([], []), ([2, 3], [2, 3]), ([4], [4]), ([5], [5]), ([1, 6], [1, 6]), ([0, 1, 2, 3, 4, 5, 6, 7], []), ([8, 7, 0, 1, 2, 3, 4, 5, 6, 7], [7, 8])])
def impl_ParseTerm.B10 : List Nat := [0, 1, 0, 0, 12, 28, 60, 127, 255, 511]
theorem impl_ParseTerm.tab10 : rtab .any (opsOf Try.f18 10) = impl_ParseTerm.T10 := by kernel_rfl
theorem impl_ParseTerm.bits10 : waitsOk impl_ParseTerm.T10.2 impl_ParseTerm.B10 = true := by kernel_rfl
def impl_ParseTerm.T11 : Bool × List (List Nat × List Nat) := (true, [([], []), ([0], [0]), ([], []), ([], []), ([], []), ([3, 4], [3, 4]), ([5], [5]), ([2, 6], [2, 6]), ([1, 7], [1, 7]), ([0, 1, 2, 3, 4, 5, 6, 7, 8], []), ([9, 8, 0, 1, 2, 3, 4, 5, 6, 7, 8], [8, 9])])
def impl_ParseTerm.B11 : List Nat := [0, 1, 0, 0, 0, 24, 56, 124, 255, 511, 1023]
theorem impl_ParseTerm.tab11 : rtab .any (opsOf Try.f18 11) = impl_ParseTerm.T11 := by kernel_rfl
theorem impl_ParseTerm.bits11 : waitsOk impl_ParseTerm.T11.2 impl_ParseTerm.B11 = true := by kernel_rfl
set_option maxHeartbeats 8000000 in
set_option maxRecDepth 100000 in
theorem impl_ParseTerm.calls (k : Nat) (a0 : Int) (a1 : ByteArray) (r1 : Int) (r2 : Int) (r3 : Bool) (w : World) (h : impl_ParseTerm.f k a0 a1 = some (r1, r2, r3)) :
  Calls Try.prog 18 #[.int .i64 a0, .string a1] w fun e w' => e = .returned (.tuple #[.agg #[.int .i64 r1, .int .i64 r2], .bool r3]) ∧ Below w.heap.size w w' := by
 have hu33 := Try.underlying33
 have HB := zA (Below.refl w.heap.size w)
 have H := h
 unfold impl_ParseTerm.f at H
 clear h
 by_cases c3 : a1.toList = ([49] : List UInt8)
 ·rw [if_pos c3] at H
  have c3b0 : (a1.toList == ([49] : List UInt8)) = true := beq_iff_eq.mpr c3
  have c3b1 : (a1.toList != ([49] : List UInt8)) = false := bne_eq_false_iff_eq.mpr c3
  clear c3
  by_cases c4 : a1.toList = ([] : List UInt8)
  ·rw [if_pos c4] at H
   have c4b0 : (a1.toList == ([] : List UInt8)) = true := beq_iff_eq.mpr c4
   have c4b1 : (a1.toList != ([] : List UInt8)) = false := bne_eq_false_iff_eq.mpr c4
   clear c4
   simp only [Option.some.injEq, Prod.mk.injEq] at H
   obtain ⟨rfl, rfl, rfl⟩ := H
   go_enter Try.func18, Try.ntmps18
   go_wp2_with (first | ((with_reducible refine gate_dst (N := 4) rfl ?_); refine box_event ?hg (N := 4) ?hd (cs := #[.int .i64 0, .int .i64 0]) (t := 33) ?hr ?_; (case hd => rfl); (case hg => rfl); (case hr => exact zH); intro gb425 hg w5 hbox hb; have BK425 := zA (hbox); have GW425 := zg HB hg; have GE425 := zg HB hg; replace HB := zA (below_step (zB HB) hb); clear hb hbox hg) | ((with_reducible refine gate_dst (N := 6) rfl ?_); refine box_event ?hg (N := 6) ?hd (cs := #[.int .i64 0, .int .i64 0]) (t := 33) ?hr ?_; (case hd => rfl); (case hg => rfl); (case hr => exact zH); intro gb426 hg w6 hbox hb; have BK426 := zA (hbox); have GW426 := zg1 HB GE425 hg; have GE426 := zg1 HB GE425 hg; have NB425_426 := zn BK425 hg; have NB426_425 := zo BK425 hg; replace BK425 := zb BK425 hb; replace HB := zA (below_step (zB1 HB GE425) hb); clear hb hbox hg; have hnb7 := NB425_426.out; have hnc7 := NB426_425.out; have hcz8_0 := zc0 BK425; have hcz8_1 := zc1 BK425; have hfz8_0 := blk_frozen BK425.out 0; have hfz8_1 := blk_frozen BK425.out 1))
   refine bodyPost_ret (results_ct rfl _ _ gb425 33 #[.int .i64 0, .int .i64 0] (0, 0) _ rfl (zP BK425) Try.underlying33 rfl (by kernel_rfl)) rfl ?_
   exact ⟨zE, zB2 HB GE425 GE426⟩
  ·rw [if_neg c4] at H
   have c4b0 : (a1.toList == ([] : List UInt8)) = false := beq_eq_false_iff_ne.mpr c4
   have c4b1 : (a1.toList != ([] : List UInt8)) = true := bne_iff_ne.mpr c4
   replace H := Option.bind_eq_some_iff.mp H
   obtain ⟨t427, A90, H⟩ := H
   replace H : (if t427.toList = a1.toList then (some (0, 0, true)) else (some (0, 0, false))) = some (r1, r2, r3) := H
   have A9 := zA A90
   clear A90
   by_cases c10 : t427.toList = a1.toList
   ·rw [if_pos c10] at H
    have c10b0 : (t427.toList == a1.toList) = true := beq_iff_eq.mpr c10
    have c10b1 : (t427.toList != a1.toList) = false := bne_eq_false_iff_eq.mpr c10
    clear c10
    simp only [Option.some.injEq, Prod.mk.injEq] at H
    obtain ⟨rfl, rfl, rfl⟩ := H
    go_enter Try.func18, Try.ntmps18
    go_wp2_with (first | ((with_reducible refine gate_dst (N := 4) rfl ?_); refine box_event ?hg (N := 4) ?hd (cs := #[.int .i64 0, .int .i64 0]) (t := 33) ?hr ?_; (case hd => rfl); (case hg => rfl); (case hr => exact zH); intro gb425 hg w11 hbox hb; have BK425 := zA (hbox); have GW425 := zg HB hg; have GE425 := zg HB hg; replace HB := zA (below_step (zB HB) hb); clear hb hbox hg) | ((with_reducible refine gate_dst (N := 6) rfl ?_); refine box_event ?hg (N := 6) ?hd (cs := #[.int .i64 0, .int .i64 0]) (t := 33) ?hr ?_; (case hd => rfl); (case hg => rfl); (case hr => exact zH); intro gb426 hg w12 hbox hb; have BK426 := zA (hbox); have GW426 := zg1 HB GE425 hg; have GE426 := zg1 HB GE425 hg; have NB425_426 := zn BK425 hg; have NB426_425 := zo BK425 hg; replace BK425 := zb BK425 hb; replace HB := zA (below_step (zB1 HB GE425) hb); clear hb hbox hg; have hnb13 := NB426_425.out; have hnc13 := NB425_426.out; have hcz14_0 := zc0 BK426; have hcz14_1 := zc1 BK426; have hfz14_0 := blk_frozen BK426.out 0; have hfz14_1 := blk_frozen BK426.out 1) | (go_at_call 17; (with_reducible refine (impl_FormatTerm.calls k a0 0 0 t427 _ A9.out).mono ?_); rintro e w15 ⟨rfl, hb⟩; replace BK425 := zb BK425 hb; replace BK426 := zb BK426 hb; replace HB := zA (below_step (zB2 HB GE425 GE426) hb); (try clear hb); (try clear hb2); (try clear hk); (try clear hi); have hcz16_0 := zc0 BK426; have hcz16_1 := zc1 BK426; have hfz16_0 := blk_frozen BK426.out 0; have hfz16_1 := blk_frozen BK426.out 1; have hcz17_0 := zc0 BK425; have hcz17_1 := zc1 BK425; have hfz17_0 := blk_frozen BK425.out 0; have hfz17_1 := blk_frozen BK425.out 1))
    refine bodyPost_ret (results_ct rfl _ _ gb425 33 #[.int .i64 0, .int .i64 0] (0, 0) _ rfl (zP BK425) Try.underlying33 rfl (by kernel_rfl)) rfl ?_
    exact ⟨zE, zB2 HB GE425 GE426⟩
   ·rw [if_neg c10] at H
    have c10b0 : (t427.toList == a1.toList) = false := beq_eq_false_iff_ne.mpr c10
    have c10b1 : (t427.toList != a1.toList) = true := bne_iff_ne.mpr c10
    simp only [Option.some.injEq, Prod.mk.injEq] at H
    obtain ⟨rfl, rfl, rfl⟩ := H
    go_enter Try.func18, Try.ntmps18
    go_wp2_with (first | ((with_reducible refine gate_dst (N := 4) rfl ?_); refine box_event ?hg (N := 4) ?hd (cs := #[.int .i64 0, .int .i64 0]) (t := 33) ?hr ?_; (case hd => rfl); (case hg => rfl); (case hr => exact zH); intro gb425 hg w18 hbox hb; have BK425 := zA (hbox); have GW425 := zg HB hg; have GE425 := zg HB hg; replace HB := zA (below_step (zB HB) hb); clear hb hbox hg) | ((with_reducible refine gate_dst (N := 6) rfl ?_); refine box_event ?hg (N := 6) ?hd (cs := #[.int .i64 0, .int .i64 0]) (t := 33) ?hr ?_; (case hd => rfl); (case hg => rfl); (case hr => exact zH); intro gb426 hg w19 hbox hb; have BK426 := zA (hbox); have GW426 := zg1 HB GE425 hg; have GE426 := zg1 HB GE425 hg; have NB425_426 := zn BK425 hg; have NB426_425 := zo BK425 hg; replace BK425 := zb BK425 hb; replace HB := zA (below_step (zB1 HB GE425) hb); clear hb hbox hg; have hnb20 := NB426_425.out; have hnc20 := NB425_426.out; have hcz21_0 := zc0 BK426; have hcz21_1 := zc1 BK426; have hfz21_0 := blk_frozen BK426.out 0; have hfz21_1 := blk_frozen BK426.out 1) | (go_at_call 17; (with_reducible refine (impl_FormatTerm.calls k a0 0 0 t427 _ A9.out).mono ?_); rintro e w22 ⟨rfl, hb⟩; replace BK425 := zb BK425 hb; replace BK426 := zb BK426 hb; replace HB := zA (below_step (zB2 HB GE425 GE426) hb); (try clear hb); (try clear hb2); (try clear hk); (try clear hi); have hcz23_0 := zc0 BK425; have hcz23_1 := zc1 BK425; have hfz23_0 := blk_frozen BK425.out 0; have hfz23_1 := blk_frozen BK425.out 1))
    refine bodyPost_ret (results_ct rfl _ _ gb425 33 #[.int .i64 0, .int .i64 0] (0, 0) _ rfl (zP BK425) Try.underlying33 rfl (by kernel_rfl)) rfl ?_
    exact ⟨zE, zB2 HB GE425 GE426⟩
 ·rw [if_neg c3] at H
  have c3b0 : (a1.toList == ([49] : List UInt8)) = false := beq_eq_false_iff_ne.mpr c3
  have c3b1 : (a1.toList != ([49] : List UInt8)) = true := bne_iff_ne.mpr c3
  have H' := zA H
  clear H
  go_enter Try.func18, Try.ntmps18
  go_wp2_with (first | ((with_reducible refine gate_dst (N := 4) rfl ?_); refine box_event ?hg (N := 4) ?hd (cs := #[.int .i64 0, .int .i64 0]) (t := 33) ?hr ?_; (case hd => rfl); (case hg => rfl); (case hr => exact zH); intro gb425 hg w24 hbox hb; have BK425 := zA (hbox); have GW425 := zg HB hg; have GE425 := zg HB hg; replace HB := zA (below_step (zB HB) hb); clear hb hbox hg) | ((with_reducible refine gate_dst (N := 6) rfl ?_); refine box_event ?hg (N := 6) ?hd (cs := #[.int .i64 0, .int .i64 0]) (t := 33) ?hr ?_; (case hd => rfl); (case hg => rfl); (case hr => exact zH); intro gb426 hg w25 hbox hb; have BK426 := zA (hbox); have GW426 := zg1 HB GE425 hg; have GE426 := zg1 HB GE425 hg; have NB425_426 := zn BK425 hg; have NB426_425 := zo BK425 hg; replace BK425 := zb BK425 hb; replace HB := zA (below_step (zB1 HB GE425) hb); clear hb hbox hg))
  go_loopg [7, 13] k (fun kq v7 v13 w' => ∃ (x7_1 : Int) (x13_1 : Int) (x427000_1 : Int) (x427001_1 : Int), v7 = .int .i64 x7_1 ∧ v13 = .int .i64 x13_1 ∧ Aside0 (impl_ParseTerm.l0 kq a0 a1 x7_1 (a1.size : Int) x13_1 x427000_1 x427001_1 = some (r1, r2, r3)) ∧ Aside0 (kq ≤ k) ∧ Aside0 (w'.heap[gb425]? = some (.cells #[.int .i64 0, .int .i64 0] 33 (0, 0))) ∧ Aside0 (w'.heap[gb426]? = some (.cells #[.int .i64 x427000_1, .int .i64 x427001_1] 33 (0, 0))) ∧ Aside0 (Below w.heap.size w w'))
  case atStart => exact ⟨(1), (0), (0), (0), zS, zS, H', ⟨Nat.le_refl _⟩, ⟨zD BK425⟩, ⟨zD BK426⟩, ⟨zB2 HB GE425 GE426⟩⟩
  case round =>
   clear H'
   try clear c3
   try clear c3b0
   try clear c3b1
   obtain ⟨x7_1, x13_1, x427000_1, x427001_1, rfl, rfl, HA, HK1, BK425, BK426, HB⟩ := hrel
   cases gk with
   | zero => exact absurd HA.out (by simp [impl_ParseTerm.l0])
   | succ k1 =>
    have H := HA.out
    clear HA
    simp only [impl_ParseTerm.l0] at H
    by_cases c26 : x13_1 < (a1.size : Int)
    ·rw [if_pos c26] at H
     have c26b0 : decide (x13_1 < (a1.size : Int)) = true := decide_eq_true c26
     clear c26
     by_cases c27 : 0 ≤ x13_1
     ·rw [if_pos c27] at H
      have c27b0 : decide (0 ≤ x13_1) = true := decide_eq_true c27
      clear c27
      by_cases c28 : x13_1 < (a1.size : Int)
      ·rw [if_pos c28] at H
       have c28b0 : decide (x13_1 < (a1.size : Int)) = true := decide_eq_true c28
       clear c28
       by_cases c30 : (bt a1 x13_1) = 33
       ·rw [if_pos c30] at H
        have c30b0 : ((bt a1 x13_1) == 33) = true := beq_iff_eq.mpr c30
        have c30b1 : ((bt a1 x13_1) != 33) = false := bne_eq_false_iff_eq.mpr c30
        clear c30
        have H' := zA H
        clear H
        have p29 : 0 ≤ (x13_1 : Int) := of_decide_eq_true (by first | (with_reducible assumption) | assumption)
        have q29 : x13_1 < (a1.size : Int) := of_decide_eq_true (by first | (with_reducible assumption) | assumption)
        have hx29 := bt_at a1 x13_1
        replace p29 := eq_true p29
        replace q29 := eq_true q29
        go_wp2
        go_roundg k1
        case measure => have := HK1.out; omega
        case rel => exact ⟨(0), (wrap64 (x13_1 + 1)), (x427000_1), (x427001_1), zS, zS, H', ⟨by have := HK1.out; omega⟩, ⟨zD BK425⟩, ⟨zD BK426⟩, ⟨zB2 HB GE425 GE426⟩⟩
       ·rw [if_neg c30] at H
        have c30b0 : ((bt a1 x13_1) == 33) = false := beq_eq_false_iff_ne.mpr c30
        have c30b1 : ((bt a1 x13_1) != 33) = true := bne_iff_ne.mpr c30
        replace H := Option.bind_eq_some_iff.mp H
        obtain ⟨t429, A320, H⟩ := H
        replace H : (if t429 = true then (impl_ParseTerm.l0 k1 a0 a1 1 (a1.size : Int) (wrap64 (x13_1 + 1)) (Go.bits .or .i64 x427000_1 (shl .i64 1 (((bt a1 x13_1) - 97) % 256))) (Go.bits .or .i64 x427001_1 (shl .i64 x7_1 (((bt a1 x13_1) - 97) % 256)))) else (impl_ParseTerm.l0 k1 a0 a1 x7_1 (a1.size : Int) (wrap64 (x13_1 + 1)) x427000_1 x427001_1)) = some (r1, r2, r3) := H
        have A32 := zA A320
        clear A320
        by_cases c33 : t429 = true
        ·subst c33
         have H1 : (impl_ParseTerm.l0 k1 a0 a1 1 (a1.size : Int) (wrap64 (x13_1 + 1)) (Go.bits .or .i64 x427000_1 (shl .i64 1 (((bt a1 x13_1) - 97) % 256))) (Go.bits .or .i64 x427001_1 (shl .i64 x7_1 (((bt a1 x13_1) - 97) % 256)))) = some (r1, r2, r3) := by rw [if_pos rfl] at H; exact H
         clear H
         have H := H1
         clear H1
         obtain ⟨ji35, hji35⟩ : ∃ j_ : Int, (shl .i64 1 (((bt a1 x13_1) - 97) % 256)) = j_ := ⟨_, rfl⟩
         replace H : (impl_ParseTerm.l0 k1 a0 a1 1 (a1.size : Int) (wrap64 (x13_1 + 1)) (Go.bits .or .i64 x427000_1 (ji35)) (Go.bits .or .i64 x427001_1 (shl .i64 x7_1 (((bt a1 x13_1) - 97) % 256)))) = some (r1, r2, r3) := by first | (rw [hji35] at H; exact H) | (simp only [hji35] at H ⊢; exact H)
         (try rw [hji35] at A32)
         have hji35_ : (IntKind.i64.wrap (1 * 2 ^ min (((bt a1 x13_1) - 97) % 256).toNat 64)) = ji35 := hji35
         have hji35z : (((bt a1 x13_1) - 97) % 256) ≤ 64 → (IntKind.i64.wrap (1 * 2 ^ (((bt a1 x13_1) - 97) % 256).toNat)) = ji35 := shl_small hji35
         have hji35u : (IntKind.i64.wrap (2 ^ min (((bt a1 x13_1) - 97) % 256).toNat 64)) = ji35 := by have h_ := hji35_; rw [Int.one_mul] at h_; exact h_
         have hji35v : (((bt a1 x13_1) - 97) % 256) ≤ 64 → (IntKind.i64.wrap (2 ^ (((bt a1 x13_1) - 97) % 256).toNat)) = ji35 := fun hle_ => by have h_ := hji35z hle_; rw [Int.one_mul] at h_; exact h_
         have hji35y : (wrap64 (1 * 2 ^ min (((bt a1 x13_1) - 97) % 256).toNat 64)) = ji35 := (i64_w _).symm.trans hji35_
         have hji35q : (wrap64 (1 * 2 ^ min (IntKind.u8.wrap (bt a1 x13_1 - 97)).toNat 64)) = ji35 := hji35y
         have hji35r : (wrap64 (2 ^ min (IntKind.u8.wrap (bt a1 x13_1 - 97)).toNat 64)) = ji35 := by have h_ := hji35q; rw [Int.one_mul] at h_; exact h_
         have hji35x : (((bt a1 x13_1) - 97) % 256) ≤ 64 → (wrap64 (1 * 2 ^ (((bt a1 x13_1) - 97) % 256).toNat)) = ji35 := fun h_ => (i64_w _).symm.trans (hji35z h_)
         obtain ⟨ji37, hji37⟩ : ∃ j_ : Int, (shl .i64 x7_1 (((bt a1 x13_1) - 97) % 256)) = j_ := ⟨_, rfl⟩
         replace H : (impl_ParseTerm.l0 k1 a0 a1 1 (a1.size : Int) (wrap64 (x13_1 + 1)) (Go.bits .or .i64 x427000_1 (ji35)) (Go.bits .or .i64 x427001_1 (ji37))) = some (r1, r2, r3) := by first | (rw [hji37] at H; exact H) | (simp only [hji37] at H ⊢; exact H)
         (try rw [hji37] at A32)
         have hji37_ : (IntKind.i64.wrap (x7_1 * 2 ^ min (((bt a1 x13_1) - 97) % 256).toNat 64)) = ji37 := hji37
         have hji37z : (((bt a1 x13_1) - 97) % 256) ≤ 64 → (IntKind.i64.wrap (x7_1 * 2 ^ (((bt a1 x13_1) - 97) % 256).toNat)) = ji37 := shl_small hji37
         have hji37y : (wrap64 (x7_1 * 2 ^ min (((bt a1 x13_1) - 97) % 256).toNat 64)) = ji37 := (i64_w _).symm.trans hji37_
         have hji37q : (wrap64 (x7_1 * 2 ^ min (IntKind.u8.wrap (bt a1 x13_1 - 97)).toNat 64)) = ji37 := hji37y
         have hji37x : (((bt a1 x13_1) - 97) % 256) ≤ 64 → (wrap64 (x7_1 * 2 ^ (((bt a1 x13_1) - 97) % 256).toNat)) = ji37 := fun h_ => (i64_w _).symm.trans (hji37z h_)
         have H' := zA H
         clear H
         have p29 : 0 ≤ (x13_1 : Int) := of_decide_eq_true (by first | (with_reducible assumption) | assumption)
         have q29 : x13_1 < (a1.size : Int) := of_decide_eq_true (by first | (with_reducible assumption) | assumption)
         have hx29 := bt_at a1 x13_1
         replace p29 := eq_true p29
         replace q29 := eq_true q29
         have p31 : 0 ≤ (x13_1 : Int) := of_decide_eq_true (by first | (with_reducible assumption) | assumption)
         have q31 : x13_1 < (a1.size : Int) := of_decide_eq_true (by first | (with_reducible assumption) | assumption)
         have hx31 := bt_at a1 x13_1
         replace p31 := eq_true p31
         replace q31 := eq_true q31
         try go_wp2_with (first | ((with_reducible refine gate_callee (f := 48) rfl ?_); refine goesL_ (some 25) rfl rfl Try.func48 (by kernel_rfl) rfl #[.int .u8 (bt a1 x13_1)] rfl zM ?_; (with_reducible refine (impl_isLetter.calls (bt a1 x13_1) true _ A32.out).mono ?_); rintro e w' ⟨rfl, ⟨nd, rfl⟩⟩; refine ⟨_, rfl, ?_⟩; (try (rw [drewN_self wr]; generalize hq_ : World.drewN wr _ = wr; have n0_ : Aside0 (wr.heap[gb425]? = some (.cells #[.int .i64 0, .int .i64 0] 33 (0, 0))) := ⟨by rw [← hq_]; exact (zD BK425)⟩; have n1_ : Aside0 (wr.heap[gb426]? = some (.cells #[.int .i64 x427000_1, .int .i64 x427001_1] 33 (0, 0))) := ⟨by rw [← hq_]; exact (zD BK426)⟩; have n2_ : Aside0 (Below w.heap.size w wr) := ⟨by rw [← hq_]; exact (zB2 HB GE425 GE426)⟩; clear BK425 BK426 HB hq_; have BK425 := n0_; have BK426 := n1_; have HB := n2_; clear n0_ n1_ n2_))))
         have n0_ := zA (blk_drew BK425.out)
         have n1_ := zA (blk_drew BK426.out)
         have n2_ := zA (below_drew1 HB.out)
         clear BK425
         clear BK426
         clear HB
         have BK425 := n0_
         have BK426 := n1_
         have HB := n2_
         clear n0_ n1_ n2_
         have p34 : 0 ≤ (x13_1 : Int) := of_decide_eq_true (by first | (with_reducible assumption) | assumption)
         have q34 : x13_1 < (a1.size : Int) := of_decide_eq_true (by first | (with_reducible assumption) | assumption)
         have hx34 := bt_at a1 x13_1
         replace p34 := eq_true p34
         replace q34 := eq_true q34
         refine start_ (n := 10) (S := fun w' => w'.cell? ⟨gb426, 0, none⟩ = some (.int .i64 x427000_1) ∧ w'.cell? ⟨gb426, 1, none⟩ = some (.int .i64 x427001_1)) (ds := [9]) #[false, false, false, false, false, false, false, false, false, false] (by kernel_rfl) rfl rfl ⟨(blk_cell BK426.out 0).trans rfl, (blk_cell BK426.out 1).trans rfl⟩ (fun hHeld => ?_); refine with_tabW impl_ParseTerm.tab10 impl_ParseTerm.bits10 (fun HT_ HW_ => ?_)
         generalize wr.drew = w38 at BK425 BK426 HB hHeld ⊢
         refine pure_ (i := 0) (N := some 26) (v := ?_) (a' := ?_) #[true, false, false, false, false, false, false, false, false, false] rfl rfl (any_of HT_.out (by kernel_rfl)) (fun _ _ _ h => h) (Or.inl ⟨by rfl, ?_⟩) ?_ ?_
         rotate_left
         ·intro w'
          go_simp
          with_reducible rfl
         rotate_left
         ·exact zU
         refine pure_ (i := 2) (N := some 28) (v := ?_) (a' := ?_) #[true, false, true, false, false, false, false, false, false, false] rfl rfl (any_of HT_.out (by kernel_rfl)) (fun _ _ _ h => h) (Or.inl ⟨by rfl, ?_⟩) ?_ ?_
         rotate_left
         ·intro w'
          go_simp
          with_reducible rfl
         rotate_left
         ·exact zU
         refine pure_ (i := 3) (N := some 29) (v := ?_) (a' := ?_) #[true, false, true, true, false, false, false, false, false, false] rfl rfl (any_of HT_.out (by kernel_rfl)) (fun _ _ _ h => h) (Or.inl ⟨by rfl, ?_⟩) ?_ ?_
         rotate_left
         ·intro w'
          go_simp
          with_reducible rfl
         rotate_left
         ·exact zU
         refine take_ (i := 1) (N := some 27) (v := ?_) (a' := ?_) #[true, true, true, true, false, false, false, false, false, false] rfl rfl (take_ofW HT_.out HW_.out (by kernel_rfl)) (fun _ _ _ h => h) (Or.inl ⟨by rfl, ?_⟩) hHeld ?_ ?_
         rotate_left
         ·rintro w' ⟨s0, s1⟩
          go_simp
          with_reducible rfl
         rotate_left
         ·exact zU
         refine take_ (i := 4) (N := some 30) (v := ?_) (a' := ?_) #[true, true, true, true, true, false, false, false, false, false] rfl rfl (take_ofW HT_.out HW_.out (by kernel_rfl)) (fun _ _ _ h => h) (Or.inl ⟨by rfl, ?_⟩) hHeld ?_ ?_
         rotate_left
         ·rintro w' ⟨s0, s1⟩
          go_simp
          with_reducible rfl
         rotate_left
         ·exact zU
         refine pure_ (i := 5) (N := some 31) (v := ?_) (a' := ?_) #[true, true, true, true, true, true, false, false, false, false] rfl rfl (any_of HT_.out (by kernel_rfl)) (fun _ _ _ h => h) (Or.inl ⟨by rfl, ?_⟩) ?_ ?_
         rotate_left
         ·intro w'
          go_simp
          with_reducible rfl
         rotate_left
         ·exact zU
         refine pure_ (i := 6) (N := some 32) (v := ?_) (a' := ?_) #[true, true, true, true, true, true, true, false, false, false] rfl rfl (any_of HT_.out (by kernel_rfl)) (fun _ _ _ h => h) (Or.inl ⟨by rfl, ?_⟩) ?_ ?_
         rotate_left
         ·intro w'
          go_simp
          with_reducible rfl
         rotate_left
         ·exact zU
         refine pure_ (i := 7) (N := some 33) (v := ?_) (a' := ?_) #[true, true, true, true, true, true, true, true, false, false] rfl rfl (any_of HT_.out (by kernel_rfl)) (fun _ _ _ h => h) (Or.inl ⟨by rfl, ?_⟩) ?_ ?_
         rotate_left
         ·intro w'
          go_simp
          with_reducible rfl
         rotate_left
         ·exact zU
         refine pure_ (i := 8) (N := some 34) (v := ?_) (a' := ?_) #[true, true, true, true, true, true, true, true, true, false] rfl rfl (any_of HT_.out (by kernel_rfl)) (fun _ _ _ h => h) (Or.inl ⟨by rfl, ?_⟩) ?_ ?_
         rotate_left
         ·intro w'
          go_simp
          with_reducible rfl
         rotate_left
         ·exact zU
         refine last_ (i := 9) (N := none) #[true, true, true, true, true, true, true, true, true, true] rfl rfl (one_of HT_.out (by kernel_rfl)) (by decide) (fun K hK => ?_)
         have hs39 : w38.cell? ⟨gb426, 0, none⟩ = some (.int .i64 x427000_1) := (blk_cell BK426.out 0).trans rfl
         have hfs39 := blk_frozen BK426.out 0
         have hns39_0 := NB425_426.out
         have hms39_0 := NB426_425.out
         refine skip_ (w1 := ?_) (by rfl) rfl ?_ ?_
         rotate_left
         ·go_simp
          rfl
         refine hK.out _ _ ?_
         clear hK K
         refine done_ (done_of HT_.out (by kernel_rfl)) ?_
         try go_wp2
         have n0_ : Aside0 ((w38.setCell ⟨gb426, 0, none⟩ (.int .i64 (Go.bits .or .i64 x427000_1 (ji35)))).heap[gb425]? = some (.cells #[.int .i64 0, .int .i64 0] 33 (0, 0))) := ⟨by (with_reducible repeat (first | refine blk_drewN ?_ _ | refine blk_drew ?_ | refine blk_alloc ?_ _)); refine blk_far ?_ NB425_426.out _; (with_reducible repeat (first | refine blk_drewN ?_ _ | refine blk_drew ?_ | refine blk_alloc ?_ _)); exact BK425.out⟩
         have n1_ : Aside0 ((w38.setCell ⟨gb426, 0, none⟩ (.int .i64 (Go.bits .or .i64 x427000_1 (ji35)))).heap[gb426]? = some (.cells #[.int .i64 (Go.bits .or .i64 x427000_1 (ji35)), .int .i64 x427001_1] 33 (0, 0))) := ⟨by (with_reducible repeat (first | refine blk_drewN ?_ _ | refine blk_drew ?_ | refine blk_alloc ?_ _)); refine blk_put (cs := #[.int .i64 x427000_1, .int .i64 x427001_1]) ?_ 0 _ rfl; (with_reducible repeat (first | refine blk_drewN ?_ _ | refine blk_drew ?_ | refine blk_alloc ?_ _)); exact BK426.out⟩
         have n2_ : Aside0 (Below w.heap.size w (w38.setCell ⟨gb426, 0, none⟩ (.int .i64 (Go.bits .or .i64 x427000_1 (ji35))))) := ⟨zB2 HB GE425 GE426⟩
         (try clear BK425)
         (try clear BK426)
         (try clear HB)
         generalize (w38.setCell ⟨gb426, 0, none⟩ (.int .i64 (Go.bits .or .i64 x427000_1 (ji35)))) = w40 at n0_ n1_ n2_ ⊢
         have BK425 := n0_
         have BK426 := n1_
         have HB := n2_
         clear n0_ n1_ n2_
         have n0_ := zA (blk_drew BK425.out)
         have n1_ := zA (blk_drew BK426.out)
         have n2_ := zA (below_drew1 HB.out)
         clear BK425
         clear BK426
         clear HB
         have BK425 := n0_
         have BK426 := n1_
         have HB := n2_
         clear n0_ n1_ n2_
         have p36 : 0 ≤ (x13_1 : Int) := of_decide_eq_true (by first | (with_reducible assumption) | assumption)
         have q36 : x13_1 < (a1.size : Int) := of_decide_eq_true (by first | (with_reducible assumption) | assumption)
         have hx36 := bt_at a1 x13_1
         replace p36 := eq_true p36
         replace q36 := eq_true q36
         refine start_ (n := 11) (S := fun w' => w'.cell? ⟨gb426, 0, none⟩ = some (.int .i64 (Go.bits .or .i64 x427000_1 (ji35))) ∧ w'.cell? ⟨gb426, 1, none⟩ = some (.int .i64 x427001_1)) (ds := [10]) #[false, false, false, false, false, false, false, false, false, false, false] (by kernel_rfl) rfl rfl ⟨(blk_cell BK426.out 0).trans rfl, (blk_cell BK426.out 1).trans rfl⟩ (fun hHeld => ?_); refine with_tabW impl_ParseTerm.tab11 impl_ParseTerm.bits11 (fun HT_ HW_ => ?_)
         generalize w40.drew = w41 at BK425 BK426 HB hHeld ⊢
         refine pure_ (i := 0) (N := some 35) (v := ?_) (a' := ?_) #[true, false, false, false, false, false, false, false, false, false, false] rfl rfl (any_of HT_.out (by kernel_rfl)) (fun _ _ _ h => h) (Or.inl ⟨by rfl, ?_⟩) ?_ ?_
         rotate_left
         ·intro w'
          go_simp
          with_reducible rfl
         rotate_left
         ·exact zU
         refine pure_ (i := 2) (N := some 37) (v := ?_) (a' := ?_) #[true, false, true, false, false, false, false, false, false, false, false] rfl rfl (any_of HT_.out (by kernel_rfl)) (fun _ _ _ h => h) (Or.inl ⟨by rfl, ?_⟩) ?_ ?_
         rotate_left
         ·intro w'
          go_simp
          with_reducible rfl
         rotate_left
         ·exact zU
         refine pure_ (i := 3) (N := some 38) (v := ?_) (a' := ?_) #[true, false, true, true, false, false, false, false, false, false, false] rfl rfl (any_of HT_.out (by kernel_rfl)) (fun _ _ _ h => h) (Or.inl ⟨by rfl, ?_⟩) ?_ ?_
         rotate_left
         ·intro w'
          go_simp
          with_reducible rfl
         rotate_left
         ·exact zU
         refine pure_ (i := 4) (N := some 39) (v := ?_) (a' := ?_) #[true, false, true, true, true, false, false, false, false, false, false] rfl rfl (any_of HT_.out (by kernel_rfl)) (fun _ _ _ h => h) (Or.inl ⟨by rfl, ?_⟩) ?_ ?_
         rotate_left
         ·intro w'
          go_simp
          with_reducible rfl
         rotate_left
         ·exact zU
         refine take_ (i := 1) (N := some 36) (v := ?_) (a' := ?_) #[true, true, true, true, true, false, false, false, false, false, false] rfl rfl (take_ofW HT_.out HW_.out (by kernel_rfl)) (fun _ _ _ h => h) (Or.inl ⟨by rfl, ?_⟩) hHeld ?_ ?_
         rotate_left
         ·rintro w' ⟨s0, s1⟩
          go_simp
          with_reducible rfl
         rotate_left
         ·exact zU
         refine take_ (i := 5) (N := some 40) (v := ?_) (a' := ?_) #[true, true, true, true, true, true, false, false, false, false, false] rfl rfl (take_ofW HT_.out HW_.out (by kernel_rfl)) (fun _ _ _ h => h) (Or.inl ⟨by rfl, ?_⟩) hHeld ?_ ?_
         rotate_left
         ·rintro w' ⟨s0, s1⟩
          go_simp
          with_reducible rfl
         rotate_left
         ·exact zU
         refine pure_ (i := 6) (N := some 41) (v := ?_) (a' := ?_) #[true, true, true, true, true, true, true, false, false, false, false] rfl rfl (any_of HT_.out (by kernel_rfl)) (fun _ _ _ h => h) (Or.inl ⟨by rfl, ?_⟩) ?_ ?_
         rotate_left
         ·intro w'
          go_simp
          with_reducible rfl
         rotate_left
         ·exact zU
         refine pure_ (i := 7) (N := some 42) (v := ?_) (a' := ?_) #[true, true, true, true, true, true, true, true, false, false, false] rfl rfl (any_of HT_.out (by kernel_rfl)) (fun _ _ _ h => h) (Or.inl ⟨by rfl, ?_⟩) ?_ ?_
         rotate_left
         ·intro w'
          go_simp
          with_reducible rfl
         rotate_left
         ·exact zU
         refine pure_ (i := 8) (N := some 43) (v := ?_) (a' := ?_) #[true, true, true, true, true, true, true, true, true, false, false] rfl rfl (any_of HT_.out (by kernel_rfl)) (fun _ _ _ h => h) (Or.inl ⟨by rfl, ?_⟩) ?_ ?_
         rotate_left
         ·intro w'
          go_simp
          with_reducible rfl
         rotate_left
         ·exact zU
         refine pure_ (i := 9) (N := some 44) (v := ?_) (a' := ?_) #[true, true, true, true, true, true, true, true, true, true, false] rfl rfl (any_of HT_.out (by kernel_rfl)) (fun _ _ _ h => h) (Or.inl ⟨by rfl, ?_⟩) ?_ ?_
         rotate_left
         ·intro w'
          go_simp
          with_reducible rfl
         rotate_left
         ·exact zU
         refine last_ (i := 10) (N := none) #[true, true, true, true, true, true, true, true, true, true, true] rfl rfl (one_of HT_.out (by kernel_rfl)) (by decide) (fun K hK => ?_)
         have hs42 : w41.cell? ⟨gb426, 1, none⟩ = some (.int .i64 x427001_1) := (blk_cell BK426.out 1).trans rfl
         have hfs42 := blk_frozen BK426.out 1
         have hns42_0 := NB425_426.out
         have hms42_0 := NB426_425.out
         refine skip_ (w1 := ?_) (by rfl) rfl ?_ ?_
         rotate_left
         ·go_simp
          rfl
         refine hK.out _ _ ?_
         clear hK K
         refine done_ (done_of HT_.out (by kernel_rfl)) ?_
         try go_wp2
         go_roundg k1
         case measure => have := HK1.out; omega
         case rel => exact ⟨(1), (wrap64 (x13_1 + 1)), (Go.bits .or .i64 x427000_1 (ji35)), (Go.bits .or .i64 x427001_1 (ji37)), zS, zS, H', ⟨by have := HK1.out; omega⟩, ⟨by (with_reducible repeat (first | refine blk_drewN ?_ _ | refine blk_drew ?_ | refine blk_alloc ?_ _)); refine blk_far ?_ NB425_426.out _; (with_reducible repeat (first | refine blk_drewN ?_ _ | refine blk_drew ?_ | refine blk_alloc ?_ _)); exact BK425.out⟩, ⟨by (with_reducible repeat (first | refine blk_drewN ?_ _ | refine blk_drew ?_ | refine blk_alloc ?_ _)); refine blk_put (cs := #[.int .i64 (Go.bits .or .i64 x427000_1 (ji35)), .int .i64 x427001_1]) ?_ 1 _ rfl; (with_reducible repeat (first | refine blk_drewN ?_ _ | refine blk_drew ?_ | refine blk_alloc ?_ _)); exact BK426.out⟩, ⟨zB2 HB GE425 GE426⟩⟩
        ·replace c33 := Bool.eq_false_iff.mpr c33
         subst c33
         have H1 : (impl_ParseTerm.l0 k1 a0 a1 x7_1 (a1.size : Int) (wrap64 (x13_1 + 1)) x427000_1 x427001_1) = some (r1, r2, r3) := by rw [if_neg (show ¬ (false = true) by decide)] at H; exact H
         clear H
         have H := H1
         clear H1
         have H' := zA H
         clear H
         have p29 : 0 ≤ (x13_1 : Int) := of_decide_eq_true (by first | (with_reducible assumption) | assumption)
         have q29 : x13_1 < (a1.size : Int) := of_decide_eq_true (by first | (with_reducible assumption) | assumption)
         have hx29 := bt_at a1 x13_1
         replace p29 := eq_true p29
         replace q29 := eq_true q29
         have p31 : 0 ≤ (x13_1 : Int) := of_decide_eq_true (by first | (with_reducible assumption) | assumption)
         have q31 : x13_1 < (a1.size : Int) := of_decide_eq_true (by first | (with_reducible assumption) | assumption)
         have hx31 := bt_at a1 x13_1
         replace p31 := eq_true p31
         replace q31 := eq_true q31
         go_wp2_with (first | ((with_reducible refine gate_callee (f := 48) rfl ?_); refine goesL_ (some 25) rfl rfl Try.func48 (by kernel_rfl) rfl #[.int .u8 (bt a1 x13_1)] rfl zM ?_; (with_reducible refine (impl_isLetter.calls (bt a1 x13_1) false _ A32.out).mono ?_); rintro e w' ⟨rfl, ⟨nd, rfl⟩⟩; refine ⟨_, rfl, ?_⟩))
         go_roundg k1
         case measure => have := HK1.out; omega
         case rel => exact ⟨(x7_1), (wrap64 (x13_1 + 1)), (x427000_1), (x427001_1), zS, zS, H', ⟨by have := HK1.out; omega⟩, ⟨zD BK425⟩, ⟨zD BK426⟩, ⟨zB2 HB GE425 GE426⟩⟩
      ·rw [if_neg c28] at H
       exact absurd H (by simp)
     ·rw [if_neg c27] at H
      exact absurd H (by simp)
    ·rw [if_neg c26] at H
     have c26b0 : decide (x13_1 < (a1.size : Int)) = false := decide_eq_false c26
     clear c26
     by_cases c43 : a1.toList = ([] : List UInt8)
     ·rw [if_pos c43] at H
      have c43b0 : (a1.toList == ([] : List UInt8)) = true := beq_iff_eq.mpr c43
      have c43b1 : (a1.toList != ([] : List UInt8)) = false := bne_eq_false_iff_eq.mpr c43
      clear c43
      simp only [Option.some.injEq, Prod.mk.injEq] at H
      obtain ⟨rfl, rfl, rfl⟩ := H
      have hnb44 := NB425_426.out
      have hnc44 := NB426_425.out
      have hcz45_0 := zc0 BK425
      have hcz45_1 := zc1 BK425
      have hfz45_0 := blk_frozen BK425.out 0
      have hfz45_1 := blk_frozen BK425.out 1
      go_wp2
      refine bodyPost_ret (results_ct rfl _ _ gb425 33 #[.int .i64 0, .int .i64 0] (0, 0) _ rfl (zP BK425) Try.underlying33 rfl (by kernel_rfl)) rfl ?_
      exact ⟨zE, zB2 HB GE425 GE426⟩
     ·rw [if_neg c43] at H
      have c43b0 : (a1.toList == ([] : List UInt8)) = false := beq_eq_false_iff_ne.mpr c43
      have c43b1 : (a1.toList != ([] : List UInt8)) = true := bne_iff_ne.mpr c43
      replace H := Option.bind_eq_some_iff.mp H
      obtain ⟨t428, A460, H⟩ := H
      replace H : (if t428.toList = a1.toList then (some (x427000_1, x427001_1, true)) else (some (0, 0, false))) = some (r1, r2, r3) := H
      have A46 := zA A460
      clear A460
      by_cases c47 : t428.toList = a1.toList
      ·rw [if_pos c47] at H
       have c47b0 : (t428.toList == a1.toList) = true := beq_iff_eq.mpr c47
       have c47b1 : (t428.toList != a1.toList) = false := bne_eq_false_iff_eq.mpr c47
       clear c47
       simp only [Option.some.injEq, Prod.mk.injEq] at H
       obtain ⟨rfl, rfl, rfl⟩ := H
       have hnb48 := NB426_425.out
       have hnc48 := NB425_426.out
       have hcz49_0 := zc0 BK426
       have hcz49_1 := zc1 BK426
       have hfz49_0 := blk_frozen BK426.out 0
       have hfz49_1 := blk_frozen BK426.out 1
       go_wp2_with (first | (go_at_call 17; (with_reducible refine (impl_FormatTerm.calls k1 a0 x427000_1 x427001_1 t428 _ A46.out).mono ?_); rintro e w50 ⟨rfl, hb⟩; replace BK425 := zb BK425 hb; replace BK426 := zb BK426 hb; replace HB := zA (below_step (zB2 HB GE425 GE426) hb); (try clear hb); (try clear hb2); (try clear hk); (try clear hi); have hcz51_0 := zc0 BK426; have hcz51_1 := zc1 BK426; have hfz51_0 := blk_frozen BK426.out 0; have hfz51_1 := blk_frozen BK426.out 1; have hcz52_0 := zc0 BK425; have hcz52_1 := zc1 BK425; have hfz52_0 := blk_frozen BK425.out 0; have hfz52_1 := blk_frozen BK425.out 1))
       refine bodyPost_ret (results_ct rfl _ _ gb425 33 #[.int .i64 x427000_1, .int .i64 x427001_1] (0, 0) _ rfl (zP BK425) Try.underlying33 rfl (by kernel_rfl)) rfl ?_
       exact ⟨zE, zB2 HB GE425 GE426⟩
      ·rw [if_neg c47] at H
       have c47b0 : (t428.toList == a1.toList) = false := beq_eq_false_iff_ne.mpr c47
       have c47b1 : (t428.toList != a1.toList) = true := bne_iff_ne.mpr c47
       simp only [Option.some.injEq, Prod.mk.injEq] at H
       obtain ⟨rfl, rfl, rfl⟩ := H
       have hnb53 := NB426_425.out
       have hnc53 := NB425_426.out
       have hcz54_0 := zc0 BK426
       have hcz54_1 := zc1 BK426
       have hfz54_0 := blk_frozen BK426.out 0
       have hfz54_1 := blk_frozen BK426.out 1
       go_wp2_with (first | (go_at_call 17; (with_reducible refine (impl_FormatTerm.calls k1 a0 x427000_1 x427001_1 t428 _ A46.out).mono ?_); rintro e w55 ⟨rfl, hb⟩; replace BK425 := zb BK425 hb; replace BK426 := zb BK426 hb; replace HB := zA (below_step (zB2 HB GE425 GE426) hb); (try clear hb); (try clear hb2); (try clear hk); (try clear hi); have hcz56_0 := zc0 BK425; have hcz56_1 := zc1 BK425; have hfz56_0 := blk_frozen BK425.out 0; have hfz56_1 := blk_frozen BK425.out 1))
       refine bodyPost_ret (results_ct rfl _ _ gb425 33 #[.int .i64 0, .int .i64 0] (0, 0) _ rfl (zP BK425) Try.underlying33 rfl (by kernel_rfl)) rfl ?_
       exact ⟨zE, zB2 HB GE425 GE426⟩

end Go.Proofs.Ytfiejicdlaknnaa.P
