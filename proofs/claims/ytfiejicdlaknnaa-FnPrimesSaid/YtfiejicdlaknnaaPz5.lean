/- The functions that this seat's laws reach, each as a plain Lean function, and the walk of each; written by a program over the kit's print. No conditions but those that stand in the theorems. -/
import Derived.Test.YtfiejicdlaknnaaK2
namespace Go.Proofs.Ytfiejicdlaknnaa.P
open Go.RowKit Go.Proofs.YtfiejicdlaknnaaW.PrintWords Go.Proofs.YtfiejicdlaknnaaW.PrintLast Go.Proofs.YtfiejicdlaknnaaW.PrintMore
attribute [local go_sem] max2_int min2_int max_two min_two max_three min_three max_four min_four   -- for this text's walks alone
set_option linter.unusedVariables false
set_option linter.unusedSimpArgs false

attribute [local go_sem] fld25_0 fld25_1
/-! ### spec_ParseTerm: function 23 -/
mutual
def spec_ParseTerm.l0 : Nat → Int → ByteArray → Bool → Int → Int → Int → Option (Int × Int × Bool)
 | 0, _, _, _, _, _, _ => none
 | k + 1, x0, x1, x7, x8, x505000, x505001 => if x8 < (x1.size : Int) then (spec_ParseTerm.j1 k x0 x1 x7 x8 (x1.toList != ([49] : List UInt8)) x505000 x505001) else (spec_ParseTerm.j1 k x0 x1 x7 x8 false x505000 x505001)
def spec_ParseTerm.j1 : Nat → Int → ByteArray → Bool → Int → Bool → Int → Int → Option (Int × Int × Bool)
 | 0, _, _, _, _, _, _, _ => none
 | k + 1, x0, x1, x7, x8, x18, x505000, x505001 => if x18 = true then (if 0 ≤ x8 then (if x8 < (x1.size : Int) then (if (bt x1 x8) = 33 then (spec_ParseTerm.l0 k x0 x1 true (wrap64 (x8 + 1)) x505000 x505001) else ((spec_l1In.f x0 0 5).bind fun t506 => (if t506 = true then ((spec_l1In.f (wrap64 ((wrap64 (bt x1 x8)) - 97)) 0 (wrap64 (x0 - 1))).bind fun t507 => (spec_ParseTerm.j2 k x0 x1 x7 x8 (wrap64 ((wrap64 (bt x1 x8)) - 97)) (!t507) x505000 x505001)) else (spec_ParseTerm.j2 k x0 x1 x7 x8 (wrap64 ((wrap64 (bt x1 x8)) - 97)) true x505000 x505001)))) else (none)) else (none)) else (if x1.toList = ([] : List UInt8) then (some (0, 0, false)) else ((spec_FormatTerm.f k x0 x505000 x505001).bind fun t505 => (if t505.toList = x1.toList then (some (x505000, x505001, true)) else (some (0, 0, false)))))
def spec_ParseTerm.j2 : Nat → Int → ByteArray → Bool → Int → Int → Bool → Int → Int → Option (Int × Int × Bool)
 | 0, _, _, _, _, _, _, _, _ => none
 | k + 1, x0, x1, x7, x8, x9, x39, x505000, x505001 => if x39 = true then (some (0, 0, false)) else (if 0 ≤ x9 then (if x7 = true then (spec_ParseTerm.l0 k x0 x1 false (wrap64 (x8 + 1)) (Go.bits .or .i64 x505000 (shl .i64 1 x9)) x505001) else (spec_ParseTerm.l0 k x0 x1 false (wrap64 (x8 + 1)) (Go.bits .or .i64 x505000 (shl .i64 1 x9)) (Go.bits .or .i64 x505001 (shl .i64 1 x9)))) else (none))
end
def spec_ParseTerm.f (k : Nat) (a0 : Int) (a1 : ByteArray) : Option (Int × Int × Bool) := spec_ParseTerm.l0 k a0 a1 false 0 0 0
theorem spec_ParseTerm.mono_l : ∀ k, (∀ y0 y1 y2 y3 y4 y5, LeO (spec_ParseTerm.l0 k y0 y1 y2 y3 y4 y5) (spec_ParseTerm.l0 (k + 1) y0 y1 y2 y3 y4 y5)) ∧ (∀ y0 y1 y2 y3 y4 y5 y6, LeO (spec_ParseTerm.j1 k y0 y1 y2 y3 y4 y5 y6) (spec_ParseTerm.j1 (k + 1) y0 y1 y2 y3 y4 y5 y6)) ∧ (∀ y0 y1 y2 y3 y4 y5 y6 y7, LeO (spec_ParseTerm.j2 k y0 y1 y2 y3 y4 y5 y6 y7) (spec_ParseTerm.j2 (k + 1) y0 y1 y2 y3 y4 y5 y6 y7))
 | 0 => ⟨fun _ _ _ _ _ _ r h => by simp [spec_ParseTerm.l0] at h, fun _ _ _ _ _ _ _ r h => by simp [spec_ParseTerm.j1] at h, fun _ _ _ _ _ _ _ _ r h => by simp [spec_ParseTerm.j2] at h⟩
 | k + 1 => by
  obtain ⟨ih0, ih1, ih2⟩ := spec_ParseTerm.mono_l k
  refine ⟨?_, ?_, ?_⟩
  ·intro y0 y1 y2 y3 y4 y5
   unfold spec_ParseTerm.l0
   repeat' first
   | (with_reducible exact ih0 _ _ _ _ _ _)
   | (with_reducible exact ih1 _ _ _ _ _ _ _)
   | (with_reducible exact ih2 _ _ _ _ _ _ _ _)
   | (with_reducible exact spec_FormatTerm.mono _ _ _ _)
   | (with_reducible exact LeO.refl _)
   | (with_reducible exact LeO.none _)
   | (with_reducible refine LeO.ite ?_ ?_)
   | (with_reducible refine LeO.bind ?_ (fun _ => ?_))
   | exact ih0 _ _ _ _ _ _
   | exact ih1 _ _ _ _ _ _ _
   | exact ih2 _ _ _ _ _ _ _ _
   | exact spec_FormatTerm.mono _ _ _ _
   | exact LeO.none _
   | refine LeO.ite ?_ ?_
   | refine LeO.bind ?_ (fun _ => ?_)
  ·intro y0 y1 y2 y3 y4 y5 y6
   unfold spec_ParseTerm.j1
   repeat' first
   | (with_reducible exact ih0 _ _ _ _ _ _)
   | (with_reducible exact ih1 _ _ _ _ _ _ _)
   | (with_reducible exact ih2 _ _ _ _ _ _ _ _)
   | (with_reducible exact spec_FormatTerm.mono _ _ _ _)
   | (with_reducible exact LeO.refl _)
   | (with_reducible exact LeO.none _)
   | (with_reducible refine LeO.ite ?_ ?_)
   | (with_reducible refine LeO.bind ?_ (fun _ => ?_))
   | exact ih0 _ _ _ _ _ _
   | exact ih1 _ _ _ _ _ _ _
   | exact ih2 _ _ _ _ _ _ _ _
   | exact spec_FormatTerm.mono _ _ _ _
   | exact LeO.none _
   | refine LeO.ite ?_ ?_
   | refine LeO.bind ?_ (fun _ => ?_)
  ·intro y0 y1 y2 y3 y4 y5 y6 y7
   unfold spec_ParseTerm.j2
   repeat' first
   | (with_reducible exact ih0 _ _ _ _ _ _)
   | (with_reducible exact ih1 _ _ _ _ _ _ _)
   | (with_reducible exact ih2 _ _ _ _ _ _ _ _)
   | (with_reducible exact spec_FormatTerm.mono _ _ _ _)
   | (with_reducible exact LeO.refl _)
   | (with_reducible exact LeO.none _)
   | (with_reducible refine LeO.ite ?_ ?_)
   | (with_reducible refine LeO.bind ?_ (fun _ => ?_))
   | exact ih0 _ _ _ _ _ _
   | exact ih1 _ _ _ _ _ _ _
   | exact ih2 _ _ _ _ _ _ _ _
   | exact spec_FormatTerm.mono _ _ _ _
   | exact LeO.none _
   | refine LeO.ite ?_ ?_
   | refine LeO.bind ?_ (fun _ => ?_)
theorem spec_ParseTerm.mono : ∀ a0 a1 k, LeO (spec_ParseTerm.f k a0 a1) (spec_ParseTerm.f (k + 1) a0 a1) := by
 intro a0 a1 k
 obtain ⟨ih0, ih1, ih2⟩ := spec_ParseTerm.mono_l k
 unfold spec_ParseTerm.f
 repeat' first
   | (with_reducible exact ih0 _ _ _ _ _ _)
   | (with_reducible exact ih1 _ _ _ _ _ _ _)
   | (with_reducible exact ih2 _ _ _ _ _ _ _ _)
   | (with_reducible exact spec_FormatTerm.mono _ _ _ _)
   | (with_reducible exact LeO.refl _)
   | (with_reducible exact LeO.none _)
   | (with_reducible refine LeO.ite ?_ ?_)
   | (with_reducible refine LeO.bind ?_ (fun _ => ?_))
   | exact ih0 _ _ _ _ _ _
   | exact ih1 _ _ _ _ _ _ _
   | exact ih2 _ _ _ _ _ _ _ _
   | exact spec_FormatTerm.mono _ _ _ _
   | exact LeO.none _
   | refine LeO.ite ?_ ?_
   | refine LeO.bind ?_ (fun _ => ?_)
set_option maxHeartbeats 8000000 in
set_option maxRecDepth 100000 in
theorem spec_ParseTerm.calls (k : Nat) (a0 : Int) (a1 : ByteArray) (r1 : Int) (r2 : Int) (r3 : Bool) (w : World) (h : spec_ParseTerm.f k a0 a1 = some (r1, r2, r3)) :
  Calls Try.prog 23 #[.int .i64 a0, .string a1] w fun e w' => e = .returned (.tuple #[.agg #[.int .i64 r1, .int .i64 r2], .bool r3]) ∧ Below w.heap.size w w' := by
 have hu33 := Try.underlying33
 have HB := zA (Below.refl w.heap.size w)
 have H : (spec_ParseTerm.l0 k a0 a1 false 0 0 0) = some (r1, r2, r3) := h
 clear h
 have H' := zA H
 clear H
 go_enter Try.func23, Try.ntmps23
 go_wp2_with (first | ((with_reducible refine gate_dst (N := 4) rfl ?_); refine box_event ?hg (N := 4) ?hd (cs := #[.int .i64 0, .int .i64 0]) (t := 33) ?hr ?_; (case hd => rfl); (case hg => rfl); (case hr => exact zH); intro gb503 hg w3 hbox hb; have BK503 := zA (hbox); have GW503 := zg HB hg; have GE503 := zg HB hg; replace HB := zA (below_step (zB HB) hb); clear hb hbox hg) | ((with_reducible refine gate_dst (N := 6) rfl ?_); refine box_event ?hg (N := 6) ?hd (cs := #[.int .i64 0, .int .i64 0]) (t := 33) ?hr ?_; (case hd => rfl); (case hg => rfl); (case hr => exact zH); intro gb504 hg w4 hbox hb; have BK504 := zA (hbox); have GW504 := zg1 HB GE503 hg; have GE504 := zg1 HB GE503 hg; have NB503_504 := zn BK503 hg; have NB504_503 := zo BK503 hg; replace BK503 := zb BK503 hb; replace HB := zA (below_step (zB1 HB GE503) hb); clear hb hbox hg; have hnb5 := NB504_503.out; have hnc5 := NB503_504.out; have hcz6_0 := zc0 BK504; have hcz6_1 := zc1 BK504; have hfz6_0 := blk_frozen BK504.out 0; have hfz6_1 := blk_frozen BK504.out 1))
 go_loopg [7, 8] k (fun kq v7 v8 w' => ∃ (x7_1 : Bool) (x8_1 : Int) (x504000_1 : Int) (x504001_1 : Int) (x505000_1 : Int) (x505001_1 : Int), v7 = .bool x7_1 ∧ v8 = .int .i64 x8_1 ∧ Aside0 (spec_ParseTerm.l0 kq a0 a1 x7_1 x8_1 x505000_1 x505001_1 = some (r1, r2, r3)) ∧ Aside0 (kq ≤ k) ∧ Aside0 (w'.heap[gb503]? = some (.cells #[.int .i64 x504000_1, .int .i64 x504001_1] 33 (0, 0))) ∧ Aside0 (w'.heap[gb504]? = some (.cells #[.int .i64 x505000_1, .int .i64 x505001_1] 33 (0, 0))) ∧ Aside0 (Below w.heap.size w w'))
 case atStart => exact ⟨(false), (0), (0), (0), (0), (0), zS, zS, H', ⟨Nat.le_refl _⟩, ⟨zF BK503 NB503_504⟩, ⟨zP BK504⟩, ⟨zB2 HB GE503 GE504⟩⟩
 case round =>
  clear H'
  try clear hcz6_0
  try clear hcz6_1
  try clear hfz6_0
  try clear hfz6_1
  obtain ⟨x7_1, x8_1, x504000_1, x504001_1, x505000_1, x505001_1, rfl, rfl, HA, HK1, BK503, BK504, HB⟩ := hrel
  cases gk with
  | zero => exact absurd HA.out (by simp [spec_ParseTerm.l0])
  | succ k1 =>
   have H := HA.out
   clear HA
   simp only [spec_ParseTerm.l0] at H
   have HC7 := zA H
   clear H
   go_upto_region 4 with (fail)
   go_cut [18] (fun v18 wc => ∃ (kq : Nat) (x18_6 : Bool), v18 = .bool x18_6 ∧ Aside0 (spec_ParseTerm.j1 kq a0 a1 x7_1 x8_1 x18_6 x505000_1 x505001_1 = some (r1, r2, r3)) ∧ Aside0 (kq ≤ k1) ∧ Aside0 (wc.heap[gb503]? = some (.cells #[.int .i64 x504000_1, .int .i64 x504001_1] 33 (0, 0))) ∧ Aside0 (wc.heap[gb504]? = some (.cells #[.int .i64 x505000_1, .int .i64 x505001_1] 33 (0, 0))) ∧ Aside0 (Below w.heap.size w wc))
   case first =>
    have H := HC7.out
    clear HC7
    by_cases c8 : x8_1 < (a1.size : Int)
    ·rw [if_pos c8] at H
     have c8b0 : decide (x8_1 < (a1.size : Int)) = true := decide_eq_true c8
     clear c8
     (first | rw [c8b0] | (simp only [i64_w, i32_w]; rw [c8b0]) | skip)
     have H' := zA H
     clear H
     go_wp2
     go_meet
     case rel => exact ⟨_, ((a1.toList != ([49] : List UInt8))), zS, H', ⟨by have := HK1.out; first | omega | exact Nat.le_refl _⟩, ⟨zD BK503⟩, ⟨zD BK504⟩, ⟨zB2 HB GE503 GE504⟩⟩
    ·rw [if_neg c8] at H
     have c8b0 : decide (x8_1 < (a1.size : Int)) = false := decide_eq_false c8
     clear c8
     (first | rw [c8b0] | (simp only [i64_w, i32_w]; rw [c8b0]) | skip)
     have H' := zA H
     clear H
     go_wp2
     go_meet
     case rel => exact ⟨_, (false), zS, H', ⟨by have := HK1.out; first | omega | exact Nat.le_refl _⟩, ⟨zD BK503⟩, ⟨zD BK504⟩, ⟨zB2 HB GE503 GE504⟩⟩
   case rest =>
    clear HC7
    try clear hcz6_0
    try clear hcz6_1
    try clear hfz6_0
    try clear hfz6_1
    obtain ⟨kq, x18_6, rfl, HA, HJ6, BK503, BK504, HB⟩ := hcut
    cases kq with
    | zero => exact absurd HA.out (by simp [spec_ParseTerm.j1])
    | succ kj6 =>
     have H := HA.out
     clear HA
     simp only [spec_ParseTerm.j1] at H
     by_cases c9 : x18_6 = true
     ·subst c9
      have H1 : (if 0 ≤ x8_1 then (if x8_1 < (a1.size : Int) then (if (bt a1 x8_1) = 33 then (spec_ParseTerm.l0 kj6 a0 a1 true (wrap64 (x8_1 + 1)) x505000_1 x505001_1) else ((spec_l1In.f a0 0 5).bind fun t506 => (if t506 = true then ((spec_l1In.f (wrap64 ((wrap64 (bt a1 x8_1)) - 97)) 0 (wrap64 (a0 - 1))).bind fun t507 => (spec_ParseTerm.j2 kj6 a0 a1 x7_1 x8_1 (wrap64 ((wrap64 (bt a1 x8_1)) - 97)) (!t507) x505000_1 x505001_1)) else (spec_ParseTerm.j2 kj6 a0 a1 x7_1 x8_1 (wrap64 ((wrap64 (bt a1 x8_1)) - 97)) true x505000_1 x505001_1)))) else (none)) else (none)) = some (r1, r2, r3) := by rw [if_pos rfl] at H; exact H
      clear H
      have H := H1
      clear H1
      by_cases c10 : 0 ≤ x8_1
      ·rw [if_pos c10] at H
       have c10b0 : decide (0 ≤ x8_1) = true := decide_eq_true c10
       clear c10
       by_cases c11 : x8_1 < (a1.size : Int)
       ·rw [if_pos c11] at H
        have c11b0 : decide (x8_1 < (a1.size : Int)) = true := decide_eq_true c11
        clear c11
        by_cases c13 : (bt a1 x8_1) = 33
        ·rw [if_pos c13] at H
         have c13b0 : ((bt a1 x8_1) == 33) = true := beq_iff_eq.mpr c13
         have c13b1 : ((bt a1 x8_1) != 33) = false := bne_eq_false_iff_eq.mpr c13
         clear c13
         have H' := zA H
         clear H
         have p12 : 0 ≤ (x8_1 : Int) := of_decide_eq_true (by first | (with_reducible assumption) | assumption)
         have q12 : x8_1 < (a1.size : Int) := of_decide_eq_true (by first | (with_reducible assumption) | assumption)
         have hx12 := bt_at a1 x8_1
         replace p12 := eq_true p12
         replace q12 := eq_true q12
         go_wp2
         go_roundg kj6
         case measure => have := HK1.out; have := HJ6.out; omega
         case rel => exact ⟨(true), (wrap64 (x8_1 + 1)), (x504000_1), (x504001_1), (x505000_1), (x505001_1), zS, zS, H', ⟨by have := HK1.out; have := HJ6.out; omega⟩, ⟨zD BK503⟩, ⟨zD BK504⟩, ⟨zB2 HB GE503 GE504⟩⟩
        ·rw [if_neg c13] at H
         have c13b0 : ((bt a1 x8_1) == 33) = false := beq_eq_false_iff_ne.mpr c13
         have c13b1 : ((bt a1 x8_1) != 33) = true := bne_iff_ne.mpr c13
         have HC15 := zA H
         clear H
         have p12 : 0 ≤ (x8_1 : Int) := of_decide_eq_true (by first | (with_reducible assumption) | assumption)
         have q12 : x8_1 < (a1.size : Int) := of_decide_eq_true (by first | (with_reducible assumption) | assumption)
         have hx12 := bt_at a1 x8_1
         replace p12 := eq_true p12
         replace q12 := eq_true q12
         have p14 : 0 ≤ (x8_1 : Int) := of_decide_eq_true (by first | (with_reducible assumption) | assumption)
         have q14 : x8_1 < (a1.size : Int) := of_decide_eq_true (by first | (with_reducible assumption) | assumption)
         have hx14 := bt_at a1 x8_1
         replace p14 := eq_true p14
         replace q14 := eq_true q14
         go_upto_region 9 with (fail)
         go_cut [39] (fun v39 wc => ∃ (kq : Nat) (x39_14 : Bool), v39 = .bool x39_14 ∧ Aside0 (spec_ParseTerm.j2 kq a0 a1 x7_1 x8_1 (wrap64 ((wrap64 (bt a1 x8_1)) - 97)) x39_14 x505000_1 x505001_1 = some (r1, r2, r3)) ∧ Aside0 (kq ≤ kj6) ∧ Aside0 (wc.heap[gb503]? = some (.cells #[.int .i64 x504000_1, .int .i64 x504001_1] 33 (0, 0))) ∧ Aside0 (wc.heap[gb504]? = some (.cells #[.int .i64 x505000_1, .int .i64 x505001_1] 33 (0, 0))) ∧ Aside0 (Below w.heap.size w wc))
         case first =>
          have H := HC15.out
          clear HC15
          replace H := Option.bind_eq_some_iff.mp H
          obtain ⟨t506, A160, H⟩ := H
          replace H : (if t506 = true then ((spec_l1In.f (wrap64 ((wrap64 (bt a1 x8_1)) - 97)) 0 (wrap64 (a0 - 1))).bind fun t507 => (spec_ParseTerm.j2 kj6 a0 a1 x7_1 x8_1 (wrap64 ((wrap64 (bt a1 x8_1)) - 97)) (!t507) x505000_1 x505001_1)) else (spec_ParseTerm.j2 kj6 a0 a1 x7_1 x8_1 (wrap64 ((wrap64 (bt a1 x8_1)) - 97)) true x505000_1 x505001_1)) = some (r1, r2, r3) := H
          have A16 := zA A160
          clear A160
          by_cases c17 : t506 = true
          ·subst c17
           have H1 : ((spec_l1In.f (wrap64 ((wrap64 (bt a1 x8_1)) - 97)) 0 (wrap64 (a0 - 1))).bind fun t507 => (spec_ParseTerm.j2 kj6 a0 a1 x7_1 x8_1 (wrap64 ((wrap64 (bt a1 x8_1)) - 97)) (!t507) x505000_1 x505001_1)) = some (r1, r2, r3) := by rw [if_pos rfl] at H; exact H
           clear H
           have H := H1
           clear H1
           replace H := Option.bind_eq_some_iff.mp H
           obtain ⟨t507, A180, H⟩ := H
           replace H : (spec_ParseTerm.j2 kj6 a0 a1 x7_1 x8_1 (wrap64 ((wrap64 (bt a1 x8_1)) - 97)) (!t507) x505000_1 x505001_1) = some (r1, r2, r3) := H
           have A18 := zA A180
           clear A180
           have H' := zA H
           clear H
           go_wp2_with (first | ((with_reducible refine gate_callee (f := 49) rfl ?_); refine goesL_ (some 31) rfl rfl Try.func49 (by kernel_rfl) rfl #[.int .i64 a0, .int .i64 0, .int .i64 5] rfl zM ?_; (with_reducible refine (spec_l1In.calls a0 0 5 true _ A16.out).mono ?_); rintro e w' ⟨rfl, ⟨nd, rfl⟩⟩; refine ⟨_, rfl, ?_⟩) | (go_at_call 49; (with_reducible refine (spec_l1In.calls (wrap64 ((wrap64 (bt a1 x8_1)) - 97)) 0 (wrap64 (a0 - 1)) t507 _ A18.out).mono ?_); rintro e w' ⟨rfl, ⟨nd, rfl⟩⟩))
           go_meet
           case rel => exact ⟨_, (!t507), zS, H', ⟨by have := HK1.out; have := HJ6.out; first | omega | exact Nat.le_refl _⟩, ⟨zD BK503⟩, ⟨zD BK504⟩, ⟨zB2 HB GE503 GE504⟩⟩
          ·replace c17 := Bool.eq_false_iff.mpr c17
           subst c17
           have H1 : (spec_ParseTerm.j2 kj6 a0 a1 x7_1 x8_1 (wrap64 ((wrap64 (bt a1 x8_1)) - 97)) true x505000_1 x505001_1) = some (r1, r2, r3) := by rw [if_neg (show ¬ (false = true) by decide)] at H; exact H
           clear H
           have H := H1
           clear H1
           have H' := zA H
           clear H
           go_wp2_with (first | ((with_reducible refine gate_callee (f := 49) rfl ?_); refine goesL_ (some 31) rfl rfl Try.func49 (by kernel_rfl) rfl #[.int .i64 a0, .int .i64 0, .int .i64 5] rfl zM ?_; (with_reducible refine (spec_l1In.calls a0 0 5 false _ A16.out).mono ?_); rintro e w' ⟨rfl, ⟨nd, rfl⟩⟩; refine ⟨_, rfl, ?_⟩))
           go_meet
           case rel => exact ⟨_, (true), zS, H', ⟨by have := HK1.out; have := HJ6.out; first | omega | exact Nat.le_refl _⟩, ⟨zD BK503⟩, ⟨zD BK504⟩, ⟨zB2 HB GE503 GE504⟩⟩
         case rest =>
          clear HC15
          try clear c9
          try clear c10
          try clear c10b0
          try clear c11
          try clear c11b0
          try clear p12
          try clear q12
          try clear hx12
          try clear c13
          try clear c13b0
          try clear c13b1
          try clear p14
          try clear q14
          try clear hx14
          try clear hcz6_0
          try clear hcz6_1
          try clear hfz6_0
          try clear hfz6_1
          try clear p12
          try clear p14
          try clear q12
          try clear q14
          obtain ⟨kq, x39_14, rfl, HA, HJ14, BK503, BK504, HB⟩ := hcut
          cases kq with
          | zero => exact absurd HA.out (by simp [spec_ParseTerm.j2])
          | succ kj14 =>
           have H := HA.out
           clear HA
           simp only [spec_ParseTerm.j2] at H
           by_cases c19 : x39_14 = true
           ·subst c19
            have H1 : (some (0, 0, false)) = some (r1, r2, r3) := by rw [if_pos rfl] at H; exact H
            clear H
            have H := H1
            clear H1
            simp only [Option.some.injEq, Prod.mk.injEq] at H
            obtain ⟨rfl, rfl, rfl⟩ := H
            have hnb20 := NB503_504.out
            have hnc20 := NB504_503.out
            have hcz21_0 := zc0 BK503
            have hcz21_1 := zc1 BK503
            have hfz21_0 := blk_frozen BK503.out 0
            have hfz21_1 := blk_frozen BK503.out 1
            go_wp2
            refine bodyPost_ret (results_ct rfl _ _ gb503 33 #[.int .i64 0, .int .i64 0] (0, 0) _ rfl (zP BK503) Try.underlying33 rfl (by kernel_rfl)) rfl ?_
            exact ⟨zE, zB2 HB GE503 GE504⟩
           ·replace c19 := Bool.eq_false_iff.mpr c19
            subst c19
            have H1 : (if 0 ≤ (wrap64 ((wrap64 (bt a1 x8_1)) - 97)) then (if x7_1 = true then (spec_ParseTerm.l0 kj14 a0 a1 false (wrap64 (x8_1 + 1)) (Go.bits .or .i64 x505000_1 (shl .i64 1 (wrap64 ((wrap64 (bt a1 x8_1)) - 97)))) x505001_1) else (spec_ParseTerm.l0 kj14 a0 a1 false (wrap64 (x8_1 + 1)) (Go.bits .or .i64 x505000_1 (shl .i64 1 (wrap64 ((wrap64 (bt a1 x8_1)) - 97)))) (Go.bits .or .i64 x505001_1 (shl .i64 1 (wrap64 ((wrap64 (bt a1 x8_1)) - 97)))))) else (none)) = some (r1, r2, r3) := by rw [if_neg (show ¬ (false = true) by decide)] at H; exact H
            clear H
            have H := H1
            clear H1
            obtain ⟨ji22, hji22⟩ : ∃ j_ : Int, (wrap64 ((wrap64 (bt a1 x8_1)) - 97)) = j_ := ⟨_, rfl⟩
            replace H : (if 0 ≤ (ji22) then (if x7_1 = true then (spec_ParseTerm.l0 kj14 a0 a1 false (wrap64 (x8_1 + 1)) (Go.bits .or .i64 x505000_1 (shl .i64 1 (ji22))) x505001_1) else (spec_ParseTerm.l0 kj14 a0 a1 false (wrap64 (x8_1 + 1)) (Go.bits .or .i64 x505000_1 (shl .i64 1 (ji22))) (Go.bits .or .i64 x505001_1 (shl .i64 1 (ji22))))) else (none)) = some (r1, r2, r3) := by first | (rw [hji22] at H; exact H) | (simp only [hji22] at H ⊢; exact H)
            have hji22w : (IntKind.i64.wrap ((wrap64 (bt a1 x8_1)) - 97)) = ji22 := (i64_w _).trans hji22
            by_cases c23 : 0 ≤ (ji22)
            ·rw [if_pos c23] at H
             have c23b0 := eq_true c23
             have c23b1 : decide (0 ≤ (ji22)) = true := decide_eq_true c23
             clear c23
             obtain ⟨ji24, hji24⟩ : ∃ j_ : Int, (shl .i64 1 (ji22)) = j_ := ⟨_, rfl⟩
             replace H : (if x7_1 = true then (spec_ParseTerm.l0 kj14 a0 a1 false (wrap64 (x8_1 + 1)) (Go.bits .or .i64 x505000_1 (ji24)) x505001_1) else (spec_ParseTerm.l0 kj14 a0 a1 false (wrap64 (x8_1 + 1)) (Go.bits .or .i64 x505000_1 (ji24)) (Go.bits .or .i64 x505001_1 (ji24)))) = some (r1, r2, r3) := by first | (rw [hji24] at H; exact H) | (simp only [hji24] at H ⊢; exact H)
             have hji24_ : (IntKind.i64.wrap (1 * 2 ^ min (ji22).toNat 64)) = ji24 := hji24
             have hji24z : (ji22) ≤ 64 → (IntKind.i64.wrap (1 * 2 ^ (ji22).toNat)) = ji24 := shl_small hji24
             have hji24u : (IntKind.i64.wrap (2 ^ min (ji22).toNat 64)) = ji24 := by have h_ := hji24_; rw [Int.one_mul] at h_; exact h_
             have hji24v : (ji22) ≤ 64 → (IntKind.i64.wrap (2 ^ (ji22).toNat)) = ji24 := fun hle_ => by have h_ := hji24z hle_; rw [Int.one_mul] at h_; exact h_
             have hji24y : (wrap64 (1 * 2 ^ min (ji22).toNat 64)) = ji24 := (i64_w _).symm.trans hji24_
             have hji24x : (ji22) ≤ 64 → (wrap64 (1 * 2 ^ (ji22).toNat)) = ji24 := fun h_ => (i64_w _).symm.trans (hji24z h_)
             by_cases c25 : x7_1 = true
             ·subst c25
              have H1 : (spec_ParseTerm.l0 kj14 a0 a1 false (wrap64 (x8_1 + 1)) (Go.bits .or .i64 x505000_1 (ji24)) x505001_1) = some (r1, r2, r3) := by rw [if_pos rfl] at H; exact H
              clear H
              have H := H1
              clear H1
              have H' := zA H
              clear H
              try go_wp2
              have n0_ := zA (blk_drew BK503.out)
              have n1_ := zA (blk_drew BK504.out)
              have n2_ := zA (below_drew1 HB.out)
              clear BK503
              clear BK504
              clear HB
              have BK503 := n0_
              have BK504 := n1_
              have HB := n2_
              clear n0_ n1_ n2_
              refine start_ (n := 7) (S := fun w' => w'.cell? ⟨gb504, 0, none⟩ = some (.int .i64 x505000_1) ∧ w'.cell? ⟨gb504, 1, none⟩ = some (.int .i64 x505001_1)) (ds := [6]) #[false, false, false, false, false, false, false] (by kernel_rfl) rfl rfl ⟨(blk_cell BK504.out 0).trans rfl, (blk_cell BK504.out 1).trans rfl⟩ (fun hHeld => ?_)
              generalize wc.drew = w26 at BK503 BK504 HB hHeld ⊢
              refine pure_ (i := 0) (N := some 41) (v := ?_) (a' := ?_) #[true, false, false, false, false, false, false] rfl rfl (by kernel_rfl) (fun _ _ _ h => h) (Or.inl ⟨by rfl, ?_⟩) ?_ ?_
              rotate_left
              ·intro w'
               go_simp
               with_reducible rfl
              rotate_left
              ·exact zU
              refine pure_ (i := 2) (N := some 43) (v := ?_) (a' := ?_) #[true, false, true, false, false, false, false] rfl rfl (by kernel_rfl) (fun _ _ _ h => h) (Or.inl ⟨by rfl, ?_⟩) ?_ ?_
              rotate_left
              ·intro w'
               go_simp
               with_reducible rfl
              rotate_left
              ·exact zU
              refine pure_ (i := 3) (N := some 44) (v := ?_) (a' := ?_) #[true, false, true, true, false, false, false] rfl rfl (by kernel_rfl) (fun _ _ _ h => h) (Or.inl ⟨by rfl, ?_⟩) ?_ ?_
              rotate_left
              ·intro w'
               go_simp
               with_reducible rfl
              rotate_left
              ·exact zU
              refine take_ (i := 1) (N := some 42) (v := ?_) (a' := ?_) #[true, true, true, true, false, false, false] rfl rfl (by kernel_rfl) (fun _ _ _ h => h) (Or.inl ⟨by rfl, ?_⟩) hHeld ?_ ?_
              rotate_left
              ·rintro w' ⟨s0, s1⟩
               go_simp
               with_reducible rfl
              rotate_left
              ·exact zU
              refine pure_ (i := 4) (N := some 45) (v := ?_) (a' := ?_) #[true, true, true, true, true, false, false] rfl rfl (by kernel_rfl) (fun _ _ _ h => h) (Or.inl ⟨by rfl, ?_⟩) ?_ ?_
              rotate_left
              ·intro w'
               go_simp
               with_reducible rfl
              rotate_left
              ·exact zU
              refine pure_ (i := 5) (N := some 46) (v := ?_) (a' := ?_) #[true, true, true, true, true, true, false] rfl rfl (by kernel_rfl) (fun _ _ _ h => h) (Or.inl ⟨by rfl, ?_⟩) ?_ ?_
              rotate_left
              ·intro w'
               go_simp
               with_reducible rfl
              rotate_left
              ·exact zU
              refine last_ (i := 6) (N := none) #[true, true, true, true, true, true, true] rfl rfl (by kernel_rfl) (by decide) (fun K hK => ?_)
              have hs27 : w26.cell? ⟨gb504, 0, none⟩ = some (.int .i64 x505000_1) := (blk_cell BK504.out 0).trans rfl
              have hfs27 := blk_frozen BK504.out 0
              have hns27_0 := NB503_504.out
              have hms27_0 := NB504_503.out
              refine skip_ (w1 := ?_) (by rfl) rfl ?_ ?_
              rotate_left
              ·go_simp
               rfl
              refine hK.out _ _ ?_
              clear hK K
              refine done_ (by kernel_rfl) ?_
              try go_wp2
              go_roundg kj14
              case measure => have := HK1.out; have := HJ6.out; have := HJ14.out; omega
              case rel => exact ⟨(false), (wrap64 (x8_1 + 1)), (x504000_1), (x504001_1), (Go.bits .or .i64 x505000_1 (ji24)), (x505001_1), zS, zS, H', ⟨by have := HK1.out; have := HJ6.out; have := HJ14.out; omega⟩, ⟨by (with_reducible repeat (first | refine blk_drewN ?_ _ | refine blk_drew ?_ | refine blk_alloc ?_ _)); refine blk_far ?_ NB503_504.out _; (with_reducible repeat (first | refine blk_drewN ?_ _ | refine blk_drew ?_ | refine blk_alloc ?_ _)); exact BK503.out⟩, ⟨by (with_reducible repeat (first | refine blk_drewN ?_ _ | refine blk_drew ?_ | refine blk_alloc ?_ _)); refine blk_put (cs := #[.int .i64 x505000_1, .int .i64 x505001_1]) ?_ 0 _ rfl; (with_reducible repeat (first | refine blk_drewN ?_ _ | refine blk_drew ?_ | refine blk_alloc ?_ _)); exact BK504.out⟩, ⟨zB2 HB GE503 GE504⟩⟩
             ·replace c25 := Bool.eq_false_iff.mpr c25
              subst c25
              have H1 : (spec_ParseTerm.l0 kj14 a0 a1 false (wrap64 (x8_1 + 1)) (Go.bits .or .i64 x505000_1 (ji24)) (Go.bits .or .i64 x505001_1 (ji24))) = some (r1, r2, r3) := by rw [if_neg (show ¬ (false = true) by decide)] at H; exact H
              clear H
              have H := H1
              clear H1
              have c28b0 := eq_true (of_decide_eq_true (by first | (with_reducible assumption) | assumption) : 0 ≤ (ji22))
              have H' := zA H
              clear H
              try go_wp2
              have n0_ := zA (blk_drew BK503.out)
              have n1_ := zA (blk_drew BK504.out)
              have n2_ := zA (below_drew1 HB.out)
              clear BK503
              clear BK504
              clear HB
              have BK503 := n0_
              have BK504 := n1_
              have HB := n2_
              clear n0_ n1_ n2_
              refine start_ (n := 7) (S := fun w' => w'.cell? ⟨gb504, 0, none⟩ = some (.int .i64 x505000_1) ∧ w'.cell? ⟨gb504, 1, none⟩ = some (.int .i64 x505001_1)) (ds := [6]) #[false, false, false, false, false, false, false] (by kernel_rfl) rfl rfl ⟨(blk_cell BK504.out 0).trans rfl, (blk_cell BK504.out 1).trans rfl⟩ (fun hHeld => ?_)
              generalize wc.drew = w29 at BK503 BK504 HB hHeld ⊢
              refine pure_ (i := 0) (N := some 41) (v := ?_) (a' := ?_) #[true, false, false, false, false, false, false] rfl rfl (by kernel_rfl) (fun _ _ _ h => h) (Or.inl ⟨by rfl, ?_⟩) ?_ ?_
              rotate_left
              ·intro w'
               go_simp
               with_reducible rfl
              rotate_left
              ·exact zU
              refine pure_ (i := 2) (N := some 43) (v := ?_) (a' := ?_) #[true, false, true, false, false, false, false] rfl rfl (by kernel_rfl) (fun _ _ _ h => h) (Or.inl ⟨by rfl, ?_⟩) ?_ ?_
              rotate_left
              ·intro w'
               go_simp
               with_reducible rfl
              rotate_left
              ·exact zU
              refine pure_ (i := 3) (N := some 44) (v := ?_) (a' := ?_) #[true, false, true, true, false, false, false] rfl rfl (by kernel_rfl) (fun _ _ _ h => h) (Or.inl ⟨by rfl, ?_⟩) ?_ ?_
              rotate_left
              ·intro w'
               go_simp
               with_reducible rfl
              rotate_left
              ·exact zU
              refine take_ (i := 1) (N := some 42) (v := ?_) (a' := ?_) #[true, true, true, true, false, false, false] rfl rfl (by kernel_rfl) (fun _ _ _ h => h) (Or.inl ⟨by rfl, ?_⟩) hHeld ?_ ?_
              rotate_left
              ·rintro w' ⟨s0, s1⟩
               go_simp
               with_reducible rfl
              rotate_left
              ·exact zU
              refine pure_ (i := 4) (N := some 45) (v := ?_) (a' := ?_) #[true, true, true, true, true, false, false] rfl rfl (by kernel_rfl) (fun _ _ _ h => h) (Or.inl ⟨by rfl, ?_⟩) ?_ ?_
              rotate_left
              ·intro w'
               go_simp
               with_reducible rfl
              rotate_left
              ·exact zU
              refine pure_ (i := 5) (N := some 46) (v := ?_) (a' := ?_) #[true, true, true, true, true, true, false] rfl rfl (by kernel_rfl) (fun _ _ _ h => h) (Or.inl ⟨by rfl, ?_⟩) ?_ ?_
              rotate_left
              ·intro w'
               go_simp
               with_reducible rfl
              rotate_left
              ·exact zU
              refine last_ (i := 6) (N := none) #[true, true, true, true, true, true, true] rfl rfl (by kernel_rfl) (by decide) (fun K hK => ?_)
              have hs30 : w29.cell? ⟨gb504, 0, none⟩ = some (.int .i64 x505000_1) := (blk_cell BK504.out 0).trans rfl
              have hfs30 := blk_frozen BK504.out 0
              have hns30_0 := NB503_504.out
              have hms30_0 := NB504_503.out
              refine skip_ (w1 := ?_) (by rfl) rfl ?_ ?_
              rotate_left
              ·go_simp
               rfl
              refine hK.out _ _ ?_
              clear hK K
              refine done_ (by kernel_rfl) ?_
              try go_wp2
              have n0_ : Aside0 ((w29.setCell ⟨gb504, 0, none⟩ (.int .i64 (Go.bits .or .i64 x505000_1 (ji24)))).heap[gb503]? = some (.cells #[.int .i64 x504000_1, .int .i64 x504001_1] 33 (0, 0))) := ⟨by (with_reducible repeat (first | refine blk_drewN ?_ _ | refine blk_drew ?_ | refine blk_alloc ?_ _)); refine blk_far ?_ NB503_504.out _; (with_reducible repeat (first | refine blk_drewN ?_ _ | refine blk_drew ?_ | refine blk_alloc ?_ _)); exact BK503.out⟩
              have n1_ : Aside0 ((w29.setCell ⟨gb504, 0, none⟩ (.int .i64 (Go.bits .or .i64 x505000_1 (ji24)))).heap[gb504]? = some (.cells #[.int .i64 (Go.bits .or .i64 x505000_1 (ji24)), .int .i64 x505001_1] 33 (0, 0))) := ⟨by (with_reducible repeat (first | refine blk_drewN ?_ _ | refine blk_drew ?_ | refine blk_alloc ?_ _)); refine blk_put (cs := #[.int .i64 x505000_1, .int .i64 x505001_1]) ?_ 0 _ rfl; (with_reducible repeat (first | refine blk_drewN ?_ _ | refine blk_drew ?_ | refine blk_alloc ?_ _)); exact BK504.out⟩
              have n2_ : Aside0 (Below w.heap.size w (w29.setCell ⟨gb504, 0, none⟩ (.int .i64 (Go.bits .or .i64 x505000_1 (ji24))))) := ⟨zB2 HB GE503 GE504⟩
              (try clear BK503)
              (try clear BK504)
              (try clear HB)
              generalize (w29.setCell ⟨gb504, 0, none⟩ (.int .i64 (Go.bits .or .i64 x505000_1 (ji24)))) = w31 at n0_ n1_ n2_ ⊢
              have BK503 := n0_
              have BK504 := n1_
              have HB := n2_
              clear n0_ n1_ n2_
              have n0_ := zA (blk_drew BK503.out)
              have n1_ := zA (blk_drew BK504.out)
              have n2_ := zA (below_drew1 HB.out)
              clear BK503
              clear BK504
              clear HB
              have BK503 := n0_
              have BK504 := n1_
              have HB := n2_
              clear n0_ n1_ n2_
              refine start_ (n := 7) (S := fun w' => w'.cell? ⟨gb504, 0, none⟩ = some (.int .i64 (Go.bits .or .i64 x505000_1 (ji24))) ∧ w'.cell? ⟨gb504, 1, none⟩ = some (.int .i64 x505001_1)) (ds := [6]) #[false, false, false, false, false, false, false] (by kernel_rfl) rfl rfl ⟨(blk_cell BK504.out 0).trans rfl, (blk_cell BK504.out 1).trans rfl⟩ (fun hHeld => ?_)
              generalize w31.drew = w32 at BK503 BK504 HB hHeld ⊢
              refine pure_ (i := 0) (N := some 49) (v := ?_) (a' := ?_) #[true, false, false, false, false, false, false] rfl rfl (by kernel_rfl) (fun _ _ _ h => h) (Or.inl ⟨by rfl, ?_⟩) ?_ ?_
              rotate_left
              ·intro w'
               go_simp
               with_reducible rfl
              rotate_left
              ·exact zU
              refine pure_ (i := 2) (N := some 51) (v := ?_) (a' := ?_) #[true, false, true, false, false, false, false] rfl rfl (by kernel_rfl) (fun _ _ _ h => h) (Or.inl ⟨by rfl, ?_⟩) ?_ ?_
              rotate_left
              ·intro w'
               go_simp
               with_reducible rfl
              rotate_left
              ·exact zU
              refine pure_ (i := 3) (N := some 52) (v := ?_) (a' := ?_) #[true, false, true, true, false, false, false] rfl rfl (by kernel_rfl) (fun _ _ _ h => h) (Or.inl ⟨by rfl, ?_⟩) ?_ ?_
              rotate_left
              ·intro w'
               go_simp
               with_reducible rfl
              rotate_left
              ·exact zU
              refine take_ (i := 1) (N := some 50) (v := ?_) (a' := ?_) #[true, true, true, true, false, false, false] rfl rfl (by kernel_rfl) (fun _ _ _ h => h) (Or.inl ⟨by rfl, ?_⟩) hHeld ?_ ?_
              rotate_left
              ·rintro w' ⟨s0, s1⟩
               go_simp
               with_reducible rfl
              rotate_left
              ·exact zU
              refine pure_ (i := 4) (N := some 53) (v := ?_) (a' := ?_) #[true, true, true, true, true, false, false] rfl rfl (by kernel_rfl) (fun _ _ _ h => h) (Or.inl ⟨by rfl, ?_⟩) ?_ ?_
              rotate_left
              ·intro w'
               go_simp
               with_reducible rfl
              rotate_left
              ·exact zU
              refine pure_ (i := 5) (N := some 54) (v := ?_) (a' := ?_) #[true, true, true, true, true, true, false] rfl rfl (by kernel_rfl) (fun _ _ _ h => h) (Or.inl ⟨by rfl, ?_⟩) ?_ ?_
              rotate_left
              ·intro w'
               go_simp
               with_reducible rfl
              rotate_left
              ·exact zU
              refine last_ (i := 6) (N := none) #[true, true, true, true, true, true, true] rfl rfl (by kernel_rfl) (by decide) (fun K hK => ?_)
              have hs33 : w32.cell? ⟨gb504, 1, none⟩ = some (.int .i64 x505001_1) := (blk_cell BK504.out 1).trans rfl
              have hfs33 := blk_frozen BK504.out 1
              have hns33_0 := NB503_504.out
              have hms33_0 := NB504_503.out
              refine skip_ (w1 := ?_) (by rfl) rfl ?_ ?_
              rotate_left
              ·go_simp
               rfl
              refine hK.out _ _ ?_
              clear hK K
              refine done_ (by kernel_rfl) ?_
              try go_wp2
              go_roundg kj14
              case measure => have := HK1.out; have := HJ6.out; have := HJ14.out; omega
              case rel => exact ⟨(false), (wrap64 (x8_1 + 1)), (x504000_1), (x504001_1), (Go.bits .or .i64 x505000_1 (ji24)), (Go.bits .or .i64 x505001_1 (ji24)), zS, zS, H', ⟨by have := HK1.out; have := HJ6.out; have := HJ14.out; omega⟩, ⟨by (with_reducible repeat (first | refine blk_drewN ?_ _ | refine blk_drew ?_ | refine blk_alloc ?_ _)); refine blk_far ?_ NB503_504.out _; (with_reducible repeat (first | refine blk_drewN ?_ _ | refine blk_drew ?_ | refine blk_alloc ?_ _)); exact BK503.out⟩, ⟨by (with_reducible repeat (first | refine blk_drewN ?_ _ | refine blk_drew ?_ | refine blk_alloc ?_ _)); refine blk_put (cs := #[.int .i64 (Go.bits .or .i64 x505000_1 (ji24)), .int .i64 x505001_1]) ?_ 1 _ rfl; (with_reducible repeat (first | refine blk_drewN ?_ _ | refine blk_drew ?_ | refine blk_alloc ?_ _)); exact BK504.out⟩, ⟨zB2 HB GE503 GE504⟩⟩
            ·rw [if_neg c23] at H
             exact absurd H (by simp)
       ·rw [if_neg c11] at H
        exact absurd H (by simp)
      ·rw [if_neg c10] at H
       exact absurd H (by simp)
     ·replace c9 := Bool.eq_false_iff.mpr c9
      subst c9
      have H1 : (if a1.toList = ([] : List UInt8) then (some (0, 0, false)) else ((spec_FormatTerm.f kj6 a0 x505000_1 x505001_1).bind fun t505 => (if t505.toList = a1.toList then (some (x505000_1, x505001_1, true)) else (some (0, 0, false))))) = some (r1, r2, r3) := by rw [if_neg (show ¬ (false = true) by decide)] at H; exact H
      clear H
      have H := H1
      clear H1
      by_cases c34 : a1.toList = ([] : List UInt8)
      ·rw [if_pos c34] at H
       have c34b0 : (a1.toList == ([] : List UInt8)) = true := beq_iff_eq.mpr c34
       have c34b1 : (a1.toList != ([] : List UInt8)) = false := bne_eq_false_iff_eq.mpr c34
       clear c34
       simp only [Option.some.injEq, Prod.mk.injEq] at H
       obtain ⟨rfl, rfl, rfl⟩ := H
       have hnb35 := NB503_504.out
       have hnc35 := NB504_503.out
       have hcz36_0 := zc0 BK503
       have hcz36_1 := zc1 BK503
       have hfz36_0 := blk_frozen BK503.out 0
       have hfz36_1 := blk_frozen BK503.out 1
       go_wp2
       refine bodyPost_ret (results_ct rfl _ _ gb503 33 #[.int .i64 0, .int .i64 0] (0, 0) _ rfl (zP BK503) Try.underlying33 rfl (by kernel_rfl)) rfl ?_
       exact ⟨zE, zB2 HB GE503 GE504⟩
      ·rw [if_neg c34] at H
       have c34b0 : (a1.toList == ([] : List UInt8)) = false := beq_eq_false_iff_ne.mpr c34
       have c34b1 : (a1.toList != ([] : List UInt8)) = true := bne_iff_ne.mpr c34
       replace H := Option.bind_eq_some_iff.mp H
       obtain ⟨t505, A370, H⟩ := H
       replace H : (if t505.toList = a1.toList then (some (x505000_1, x505001_1, true)) else (some (0, 0, false))) = some (r1, r2, r3) := H
       have A37 := zA A370
       clear A370
       by_cases c38 : t505.toList = a1.toList
       ·rw [if_pos c38] at H
        have c38b0 : (t505.toList == a1.toList) = true := beq_iff_eq.mpr c38
        have c38b1 : (t505.toList != a1.toList) = false := bne_eq_false_iff_eq.mpr c38
        clear c38
        simp only [Option.some.injEq, Prod.mk.injEq] at H
        obtain ⟨rfl, rfl, rfl⟩ := H
        have hnb39 := NB504_503.out
        have hnc39 := NB503_504.out
        have hcz40_0 := zc0 BK504
        have hcz40_1 := zc1 BK504
        have hfz40_0 := blk_frozen BK504.out 0
        have hfz40_1 := blk_frozen BK504.out 1
        go_wp2_with (first | (go_at_call 19; (with_reducible refine (spec_FormatTerm.calls kj6 a0 x505000_1 x505001_1 t505 _ A37.out).mono ?_); rintro e w41 ⟨rfl, hb⟩; replace BK503 := zb BK503 hb; replace BK504 := zb BK504 hb; replace HB := zA (below_step (zB2 HB GE503 GE504) hb); (try clear hb); (try clear hb2); (try clear hk); (try clear hi); have hcz42_0 := zc0 BK504; have hcz42_1 := zc1 BK504; have hfz42_0 := blk_frozen BK504.out 0; have hfz42_1 := blk_frozen BK504.out 1; have hcz43_0 := zc0 BK503; have hcz43_1 := zc1 BK503; have hfz43_0 := blk_frozen BK503.out 0; have hfz43_1 := blk_frozen BK503.out 1))
        refine bodyPost_ret (results_ct rfl _ _ gb503 33 #[.int .i64 x505000_1, .int .i64 x505001_1] (0, 0) _ rfl (zP BK503) Try.underlying33 rfl (by kernel_rfl)) rfl ?_
        exact ⟨zE, zB2 HB GE503 GE504⟩
       ·rw [if_neg c38] at H
        have c38b0 : (t505.toList == a1.toList) = false := beq_eq_false_iff_ne.mpr c38
        have c38b1 : (t505.toList != a1.toList) = true := bne_iff_ne.mpr c38
        simp only [Option.some.injEq, Prod.mk.injEq] at H
        obtain ⟨rfl, rfl, rfl⟩ := H
        have hnb44 := NB504_503.out
        have hnc44 := NB503_504.out
        have hcz45_0 := zc0 BK504
        have hcz45_1 := zc1 BK504
        have hfz45_0 := blk_frozen BK504.out 0
        have hfz45_1 := blk_frozen BK504.out 1
        go_wp2_with (first | (go_at_call 19; (with_reducible refine (spec_FormatTerm.calls kj6 a0 x505000_1 x505001_1 t505 _ A37.out).mono ?_); rintro e w46 ⟨rfl, hb⟩; replace BK503 := zb BK503 hb; replace BK504 := zb BK504 hb; replace HB := zA (below_step (zB2 HB GE503 GE504) hb); (try clear hb); (try clear hb2); (try clear hk); (try clear hi); have hcz47_0 := zc0 BK503; have hcz47_1 := zc1 BK503; have hfz47_0 := blk_frozen BK503.out 0; have hfz47_1 := blk_frozen BK503.out 1))
        refine bodyPost_ret (results_ct rfl _ _ gb503 33 #[.int .i64 0, .int .i64 0] (0, 0) _ rfl (zP BK503) Try.underlying33 rfl (by kernel_rfl)) rfl ?_
        exact ⟨zE, zB2 HB GE503 GE504⟩

end Go.Proofs.Ytfiejicdlaknnaa.P
