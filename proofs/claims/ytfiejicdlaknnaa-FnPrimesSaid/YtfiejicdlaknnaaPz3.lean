/- The functions that this seat's laws reach, each as a plain Lean function, and the walk of each; written by a program over the kit's print. No conditions but those that stand in the theorems. -/
import Derived.Test.YtfiejicdlaknnaaK2
namespace Go.Proofs.Ytfiejicdlaknnaa.P
open Go.RowKit Go.Proofs.YtfiejicdlaknnaaW.PrintWords Go.Proofs.YtfiejicdlaknnaaW.PrintLast Go.Proofs.YtfiejicdlaknnaaW.PrintMore
attribute [local go_sem] max2_int min2_int max_two min_two max_three min_three max_four min_four   -- for this text's walks alone
set_option linter.unusedVariables false
set_option linter.unusedSimpArgs false

attribute [local go_sem] fld25_0 fld25_1
/-! ### spec_l6Word: function 43 -/
def spec_l6Word.l0 : Nat → Int → Int → Int → Int → Int → Option (Int)
 | 0, _, _, _, _, _ => none
 | k + 1, x0, x5, x6, x246000, x246001 => if 0 ≤ x0 then (if x6 < (shl .i64 1 x0) then (if (Go.bits .and .i64 x6 x246000) = x246001 then (if 0 ≤ x6 then (spec_l6Word.l0 k x0 (Go.bits .or .i64 x5 (shl .i64 1 x6)) (wrap64 (x6 + 1)) x246000 x246001) else (none)) else (spec_l6Word.l0 k x0 x5 (wrap64 (x6 + 1)) x246000 x246001)) else (some x5)) else (none)
def spec_l6Word.f (k : Nat) (a0 : Int) (a1_0 : Int) (a1_1 : Int) : Option (Int) := spec_l6Word.l0 k a0 0 0 a1_0 a1_1
theorem spec_l6Word.mono_l : ∀ k, (∀ y0 y1 y2 y3 y4, LeO (spec_l6Word.l0 k y0 y1 y2 y3 y4) (spec_l6Word.l0 (k + 1) y0 y1 y2 y3 y4))
 | 0 => fun _ _ _ _ _ r h => by simp [spec_l6Word.l0] at h
 | k + 1 => by
  have ih0 := spec_l6Word.mono_l k
  ·intro y0 y1 y2 y3 y4
   unfold spec_l6Word.l0
   repeat' first
   | (with_reducible exact ih0 _ _ _ _ _)
   | (with_reducible exact LeO.refl _)
   | (with_reducible exact LeO.none _)
   | (with_reducible refine LeO.ite ?_ ?_)
   | (with_reducible refine LeO.bind ?_ (fun _ => ?_))
   | exact ih0 _ _ _ _ _
   | exact LeO.none _
   | refine LeO.ite ?_ ?_
   | refine LeO.bind ?_ (fun _ => ?_)
theorem spec_l6Word.mono : ∀ a0 a1 a2 k, LeO (spec_l6Word.f k a0 a1 a2) (spec_l6Word.f (k + 1) a0 a1 a2) := by
 intro a0 a1 a2 k
 have ih0 := spec_l6Word.mono_l k
 unfold spec_l6Word.f
 repeat' first
   | (with_reducible exact ih0 _ _ _ _ _)
   | (with_reducible exact LeO.refl _)
   | (with_reducible exact LeO.none _)
   | (with_reducible refine LeO.ite ?_ ?_)
   | (with_reducible refine LeO.bind ?_ (fun _ => ?_))
   | exact ih0 _ _ _ _ _
   | exact LeO.none _
   | refine LeO.ite ?_ ?_
   | refine LeO.bind ?_ (fun _ => ?_)
set_option maxHeartbeats 8000000 in
set_option maxRecDepth 100000 in
theorem spec_l6Word.calls (k : Nat) (a0 : Int) (a1_0 : Int) (a1_1 : Int) (r : Int) (w : World) (h : spec_l6Word.f k a0 a1_0 a1_1 = some r) :
  Calls Try.prog 43 #[.int .i64 a0, .agg #[.int .i64 a1_0, .int .i64 a1_1]] w fun e w' => e = .returned (.int .i64 r) ∧ Below w.heap.size w w' := by
 have hu33 := Try.underlying33
 have HB := zA (Below.refl w.heap.size w)
 have H : (spec_l6Word.l0 k a0 0 0 a1_0 a1_1) = some r := h
 clear h
 have H' := zA H
 clear H
 go_enter Try.func43, Try.ntmps43
 go_wp2_with (first | ((with_reducible refine gate_dst (N := 3) rfl ?_); refine box_event ?hg (N := 3) ?hd (cs := #[.int .i64 a1_0, .int .i64 a1_1]) (t := 33) ?hr ?_; (case hd => rfl); (case hg => rfl); (case hr => exact zH); intro gb245 hg w3 hbox hb; have BK245 := zA (hbox); have GW245 := zg HB hg; have GE245 := zg HB hg; replace HB := zA (below_step (zB HB) hb); clear hb hbox hg))
 go_loopg [5, 6] k (fun kq v5 v6 w' => ∃ (x5_1 : Int) (x6_1 : Int), v5 = .int .i64 x5_1 ∧ v6 = .int .i64 x6_1 ∧ Aside0 (spec_l6Word.l0 kq a0 x5_1 x6_1 a1_0 a1_1 = some r) ∧ Aside0 (kq ≤ k) ∧ Aside0 (w'.heap[gb245]? = some (.cells #[.int .i64 a1_0, .int .i64 a1_1] 33 (0, 0))) ∧ Aside0 (Below w.heap.size w w'))
 case atStart => exact ⟨(0), (0), zS, zS, H', ⟨Nat.le_refl _⟩, ⟨zD BK245⟩, ⟨zB1 HB GE245⟩⟩
 case round =>
  clear H'
  obtain ⟨x5_1, x6_1, rfl, rfl, HA, HK1, BK245, HB⟩ := hrel
  cases gk with
  | zero => exact absurd HA.out (by simp [spec_l6Word.l0])
  | succ k1 =>
   have H := HA.out
   clear HA
   simp only [spec_l6Word.l0] at H
   by_cases c4 : 0 ≤ a0
   ·rw [if_pos c4] at H
    have c4b0 := eq_true c4
    have c4b1 : decide (0 ≤ a0) = true := decide_eq_true c4
    clear c4
    obtain ⟨ji5, hji5⟩ : ∃ j_ : Int, (shl .i64 1 a0) = j_ := ⟨_, rfl⟩
    replace H : (if x6_1 < (ji5) then (if (Go.bits .and .i64 x6_1 a1_0) = a1_1 then (if 0 ≤ x6_1 then (spec_l6Word.l0 k1 a0 (Go.bits .or .i64 x5_1 (shl .i64 1 x6_1)) (wrap64 (x6_1 + 1)) a1_0 a1_1) else (none)) else (spec_l6Word.l0 k1 a0 x5_1 (wrap64 (x6_1 + 1)) a1_0 a1_1)) else (some x5_1)) = some r := by first | (rw [hji5] at H; exact H) | (simp only [hji5] at H ⊢; exact H)
    have hji5_ : (IntKind.i64.wrap (1 * 2 ^ min a0.toNat 64)) = ji5 := hji5
    have hji5z : a0 ≤ 64 → (IntKind.i64.wrap (1 * 2 ^ a0.toNat)) = ji5 := shl_small hji5
    have hji5u : (IntKind.i64.wrap (2 ^ min a0.toNat 64)) = ji5 := by have h_ := hji5_; rw [Int.one_mul] at h_; exact h_
    have hji5v : a0 ≤ 64 → (IntKind.i64.wrap (2 ^ a0.toNat)) = ji5 := fun hle_ => by have h_ := hji5z hle_; rw [Int.one_mul] at h_; exact h_
    have hji5y : (wrap64 (1 * 2 ^ min a0.toNat 64)) = ji5 := (i64_w _).symm.trans hji5_
    have hji5x : a0 ≤ 64 → (wrap64 (1 * 2 ^ a0.toNat)) = ji5 := fun h_ => (i64_w _).symm.trans (hji5z h_)
    by_cases c6 : x6_1 < (ji5)
    ·rw [if_pos c6] at H
     have c6b0 : decide (x6_1 < (ji5)) = true := decide_eq_true c6
     clear c6
     by_cases c7 : (Go.bits .and .i64 x6_1 a1_0) = a1_1
     ·rw [if_pos c7] at H
      have c7b0 : ((Go.bits .and .i64 x6_1 a1_0) == a1_1) = true := beq_iff_eq.mpr c7
      have c7b1 : ((Go.bits .and .i64 x6_1 a1_0) != a1_1) = false := bne_eq_false_iff_eq.mpr c7
      clear c7
      by_cases c8 : 0 ≤ x6_1
      ·rw [if_pos c8] at H
       have c8b0 := eq_true c8
       have c8b1 : decide (0 ≤ x6_1) = true := decide_eq_true c8
       clear c8
       obtain ⟨ji9, hji9⟩ : ∃ j_ : Int, (shl .i64 1 x6_1) = j_ := ⟨_, rfl⟩
       replace H : (spec_l6Word.l0 k1 a0 (Go.bits .or .i64 x5_1 (ji9)) (wrap64 (x6_1 + 1)) a1_0 a1_1) = some r := by first | (rw [hji9] at H; exact H) | (simp only [hji9] at H ⊢; exact H)
       have hji9_ : (IntKind.i64.wrap (1 * 2 ^ min x6_1.toNat 64)) = ji9 := hji9
       have hji9z : x6_1 ≤ 64 → (IntKind.i64.wrap (1 * 2 ^ x6_1.toNat)) = ji9 := shl_small hji9
       have hji9u : (IntKind.i64.wrap (2 ^ min x6_1.toNat 64)) = ji9 := by have h_ := hji9_; rw [Int.one_mul] at h_; exact h_
       have hji9v : x6_1 ≤ 64 → (IntKind.i64.wrap (2 ^ x6_1.toNat)) = ji9 := fun hle_ => by have h_ := hji9z hle_; rw [Int.one_mul] at h_; exact h_
       have hji9y : (wrap64 (1 * 2 ^ min x6_1.toNat 64)) = ji9 := (i64_w _).symm.trans hji9_
       have hji9x : x6_1 ≤ 64 → (wrap64 (1 * 2 ^ x6_1.toNat)) = ji9 := fun h_ => (i64_w _).symm.trans (hji9z h_)
       have H' := zA H
       clear H
       have hcz10_0 := zc0 BK245
       have hcz10_1 := zc1 BK245
       have hfz10_0 := blk_frozen BK245.out 0
       have hfz10_1 := blk_frozen BK245.out 1
       go_wp2
       go_roundg k1
       case measure => have := HK1.out; omega
       case rel => exact ⟨(Go.bits .or .i64 x5_1 (ji9)), (wrap64 (x6_1 + 1)), (by first | rfl | (simp; done) | (simp only [← hji9] <;> (first | rfl | simp)) | (simp [*]; done)), zS, H', ⟨by have := HK1.out; omega⟩, ⟨zD BK245⟩, ⟨zB1 HB GE245⟩⟩
      ·rw [if_neg c8] at H
       exact absurd H (by simp)
     ·rw [if_neg c7] at H
      have c7b0 : ((Go.bits .and .i64 x6_1 a1_0) == a1_1) = false := beq_eq_false_iff_ne.mpr c7
      have c7b1 : ((Go.bits .and .i64 x6_1 a1_0) != a1_1) = true := bne_iff_ne.mpr c7
      have H' := zA H
      clear H
      have hcz11_0 := zc0 BK245
      have hcz11_1 := zc1 BK245
      have hfz11_0 := blk_frozen BK245.out 0
      have hfz11_1 := blk_frozen BK245.out 1
      go_wp2
      go_roundg k1
      case measure => have := HK1.out; omega
      case rel => exact ⟨(x5_1), (wrap64 (x6_1 + 1)), zS, zS, H', ⟨by have := HK1.out; omega⟩, ⟨zD BK245⟩, ⟨zB1 HB GE245⟩⟩
    ·rw [if_neg c6] at H
     have c6b0 : decide (x6_1 < (ji5)) = false := decide_eq_false c6
     clear c6
     obtain rfl := Option.some.inj H
     go_wp2
     go_ret
     exact ⟨by first | rfl | (simp [errW_none, errW_some] <;> rfl) | (simp only [← hji5]; first | rfl | (simp [errW_none, errW_some] <;> rfl)) | (simp [*, errW_none, errW_some] <;> rfl), zB1 HB GE245⟩
   ·rw [if_neg c4] at H
    exact absurd H (by simp)

/-! ### spec_l6Implies: function 59 -/
def spec_l6Implies.f (k : Nat) (a0_0 : Int) (a0_1 : Int) (a1_0 : Int) (a1_1 : Int) : Option (Bool) := (spec_l6Word.f k a0_0 a1_0 a1_1).bind fun t248 => (some ((Go.bits .and .i64 t248 a0_1) == t248))
theorem spec_l6Implies.mono : ∀ a0 a1 a2 a3 k, LeO (spec_l6Implies.f k a0 a1 a2 a3) (spec_l6Implies.f (k + 1) a0 a1 a2 a3) := by
 intro a0 a1 a2 a3 k
 unfold spec_l6Implies.f
 repeat' first
   | (with_reducible exact spec_l6Word.mono _ _ _ _)
   | (with_reducible exact LeO.refl _)
   | (with_reducible exact LeO.none _)
   | (with_reducible refine LeO.ite ?_ ?_)
   | (with_reducible refine LeO.bind ?_ (fun _ => ?_))
   | exact spec_l6Word.mono _ _ _ _
   | exact LeO.none _
   | refine LeO.ite ?_ ?_
   | refine LeO.bind ?_ (fun _ => ?_)
set_option maxHeartbeats 8000000 in
set_option maxRecDepth 100000 in
theorem spec_l6Implies.calls (k : Nat) (a0_0 : Int) (a0_1 : Int) (a1_0 : Int) (a1_1 : Int) (r : Bool) (w : World) (h : spec_l6Implies.f k a0_0 a0_1 a1_0 a1_1 = some r) :
  Calls Try.prog 59 #[.agg #[.int .i64 a0_0, .int .i64 a0_1], .agg #[.int .i64 a1_0, .int .i64 a1_1]] w fun e w' => e = .returned (.bool r) ∧ Below w.heap.size w w' := by
 have hu25 := Try.underlying25
 have hu33 := Try.underlying33
 have HB := zA (Below.refl w.heap.size w)
 have H := h
 unfold spec_l6Implies.f at H
 clear h
 replace H := Option.bind_eq_some_iff.mp H
 obtain ⟨t248, A30, H⟩ := H
 replace H : (some ((Go.bits .and .i64 t248 a0_1) == t248)) = some r := H
 have A3 := zA A30
 clear A30
 obtain rfl := Option.some.inj H
 go_enter Try.func59, Try.ntmps59
 go_wp2_with (first | ((with_reducible refine gate_dst (N := 2) rfl ?_); refine box_event ?hg (N := 2) ?hd (cs := #[.int .i64 a0_0, .int .i64 a0_1]) (t := 25) ?hr ?_; (case hd => rfl); (case hg => rfl); (case hr => exact zH); intro gb246 hg w4 hbox hb; have BK246 := zA (hbox); have GW246 := zg HB hg; have GE246 := zg HB hg; replace HB := zA (below_step (zB HB) hb); clear hb hbox hg) | ((with_reducible refine gate_dst (N := 3) rfl ?_); refine box_event ?hg (N := 3) ?hd (cs := #[.int .i64 a1_0, .int .i64 a1_1]) (t := 33) ?hr ?_; (case hd => rfl); (case hg => rfl); (case hr => exact zH); intro gb247 hg w5 hbox hb; have BK247 := zA (hbox); have GW247 := zg1 HB GE246 hg; have GE247 := zg1 HB GE246 hg; have NB246_247 := zn BK246 hg; have NB247_246 := zo BK246 hg; replace BK246 := zb BK246 hb; replace HB := zA (below_step (zB1 HB GE246) hb); clear hb hbox hg; have hnb6 := NB246_247.out; have hnc6 := NB247_246.out; have hcz7_0 := zc0 BK246; have hcz7_1 := zc1 BK246; have hfz7_0 := blk_frozen BK246.out 0; have hfz7_1 := blk_frozen BK246.out 1; have hcz8_0 := zc0 BK247; have hcz8_1 := zc1 BK247; have hfz8_0 := blk_frozen BK247.out 0; have hfz8_1 := blk_frozen BK247.out 1) | ((with_reducible refine gate_callee (f := 43) rfl ?_); refine goesL_ (some 9) rfl rfl Try.func43 (by kernel_rfl) rfl #[.int .i64 a0_0, .agg #[.int .i64 a1_0, .int .i64 a1_1]] rfl zM ?_; (with_reducible refine (spec_l6Word.calls k a0_0 a1_0 a1_1 t248 _ A3.out).mono ?_); rintro e w9 ⟨rfl, hb⟩; refine ⟨_, rfl, ?_⟩; replace BK246 := zb BK246 hb; replace BK247 := zb BK247 hb; replace HB := zA (below_step (zB2 HB GE246 GE247) hb); (try clear hb); (try clear hb2); (try clear hk); (try clear hi); have hcz10_0 := zc0 BK246; have hcz10_1 := zc1 BK246; have hfz10_0 := blk_frozen BK246.out 0; have hfz10_1 := blk_frozen BK246.out 1))
 go_ret
 exact ⟨zE, zB2 HB GE246 GE247⟩

/-! ### spec_l6Prime: function 58 -/
def spec_l6Prime.l0 : Nat → Int → Int → Int → Int → Int → Option (Bool)
 | 0, _, _, _, _, _ => none
 | k + 1, x5, x250000, x250001, x251000, x251001 => if x5 < x250000 then (if 0 ≤ x5 then (if (Go.bits .and .i64 x251000 (shl .i64 1 x5)) = 0 then (spec_l6Prime.l0 k (wrap64 (x5 + 1)) x250000 x250001 x251000 x251001) else ((spec_l6Implies.f k x250000 x250001 (wrap64 (x251000 - (shl .i64 1 x5))) (wrap64 (x251001 - (Go.bits .and .i64 x251001 (shl .i64 1 x5))))).bind fun t252 => (if t252 = true then (some false) else (spec_l6Prime.l0 k (wrap64 (x5 + 1)) x250000 x250001 x251000 x251001)))) else (none)) else (some true)
def spec_l6Prime.f (k : Nat) (a0_0 : Int) (a0_1 : Int) (a1_0 : Int) (a1_1 : Int) : Option (Bool) := (spec_l6Implies.f k a0_0 a0_1 a1_0 a1_1).bind fun t251 => (if t251 = true then (spec_l6Prime.l0 k 0 a0_0 a0_1 a1_0 a1_1) else (some false))
theorem spec_l6Prime.mono_l : ∀ k, (∀ y0 y1 y2 y3 y4, LeO (spec_l6Prime.l0 k y0 y1 y2 y3 y4) (spec_l6Prime.l0 (k + 1) y0 y1 y2 y3 y4))
 | 0 => fun _ _ _ _ _ r h => by simp [spec_l6Prime.l0] at h
 | k + 1 => by
  have ih0 := spec_l6Prime.mono_l k
  ·intro y0 y1 y2 y3 y4
   unfold spec_l6Prime.l0
   repeat' first
   | (with_reducible exact ih0 _ _ _ _ _)
   | (with_reducible exact spec_l6Implies.mono _ _ _ _ _)
   | (with_reducible exact LeO.refl _)
   | (with_reducible exact LeO.none _)
   | (with_reducible refine LeO.ite ?_ ?_)
   | (with_reducible refine LeO.bind ?_ (fun _ => ?_))
   | exact ih0 _ _ _ _ _
   | exact spec_l6Implies.mono _ _ _ _ _
   | exact LeO.none _
   | refine LeO.ite ?_ ?_
   | refine LeO.bind ?_ (fun _ => ?_)
theorem spec_l6Prime.mono : ∀ a0 a1 a2 a3 k, LeO (spec_l6Prime.f k a0 a1 a2 a3) (spec_l6Prime.f (k + 1) a0 a1 a2 a3) := by
 intro a0 a1 a2 a3 k
 have ih0 := spec_l6Prime.mono_l k
 unfold spec_l6Prime.f
 repeat' first
   | (with_reducible exact ih0 _ _ _ _ _)
   | (with_reducible exact spec_l6Implies.mono _ _ _ _ _)
   | (with_reducible exact LeO.refl _)
   | (with_reducible exact LeO.none _)
   | (with_reducible refine LeO.ite ?_ ?_)
   | (with_reducible refine LeO.bind ?_ (fun _ => ?_))
   | exact ih0 _ _ _ _ _
   | exact spec_l6Implies.mono _ _ _ _ _
   | exact LeO.none _
   | refine LeO.ite ?_ ?_
   | refine LeO.bind ?_ (fun _ => ?_)
set_option maxHeartbeats 8000000 in
set_option maxRecDepth 100000 in
theorem spec_l6Prime.calls (k : Nat) (a0_0 : Int) (a0_1 : Int) (a1_0 : Int) (a1_1 : Int) (r : Bool) (w : World) (h : spec_l6Prime.f k a0_0 a0_1 a1_0 a1_1 = some r) :
  Calls Try.prog 58 #[.agg #[.int .i64 a0_0, .int .i64 a0_1], .agg #[.int .i64 a1_0, .int .i64 a1_1]] w fun e w' => e = .returned (.bool r) ∧ Below w.heap.size w w' := by
 have hu25 := Try.underlying25
 have hu33 := Try.underlying33
 have HB := zA (Below.refl w.heap.size w)
 have H := h
 unfold spec_l6Prime.f at H
 clear h
 replace H := Option.bind_eq_some_iff.mp H
 obtain ⟨t251, A30, H⟩ := H
 replace H : (if t251 = true then (spec_l6Prime.l0 k 0 a0_0 a0_1 a1_0 a1_1) else (some false)) = some r := H
 have A3 := zA A30
 clear A30
 by_cases c4 : t251 = true
 ·subst c4
  have H1 : (spec_l6Prime.l0 k 0 a0_0 a0_1 a1_0 a1_1) = some r := by rw [if_pos rfl] at H; exact H
  clear H
  have H := H1
  clear H1
  have H' := zA H
  clear H
  go_enter Try.func58, Try.ntmps58
  go_wp2_with (first | ((with_reducible refine gate_dst (N := 2) rfl ?_); refine box_event ?hg (N := 2) ?hd (cs := #[.int .i64 a0_0, .int .i64 a0_1]) (t := 25) ?hr ?_; (case hd => rfl); (case hg => rfl); (case hr => exact zH); intro gb249 hg w5 hbox hb; have BK249 := zA (hbox); have GW249 := zg HB hg; have GE249 := zg HB hg; replace HB := zA (below_step (zB HB) hb); clear hb hbox hg) | ((with_reducible refine gate_dst (N := 3) rfl ?_); refine box_event ?hg (N := 3) ?hd (cs := #[.int .i64 a1_0, .int .i64 a1_1]) (t := 33) ?hr ?_; (case hd => rfl); (case hg => rfl); (case hr => exact zH); intro gb250 hg w6 hbox hb; have BK250 := zA (hbox); have GW250 := zg1 HB GE249 hg; have GE250 := zg1 HB GE249 hg; have NB249_250 := zn BK249 hg; have NB250_249 := zo BK249 hg; replace BK249 := zb BK249 hb; replace HB := zA (below_step (zB1 HB GE249) hb); clear hb hbox hg; have hnb7 := NB249_250.out; have hnc7 := NB250_249.out; have hcz8_0 := zc0 BK249; have hcz8_1 := zc1 BK249; have hfz8_0 := blk_frozen BK249.out 0; have hfz8_1 := blk_frozen BK249.out 1; have hcz9_0 := zc0 BK250; have hcz9_1 := zc1 BK250; have hfz9_0 := blk_frozen BK250.out 0; have hfz9_1 := blk_frozen BK250.out 1) | ((with_reducible refine gate_callee (f := 59) rfl ?_); refine goesL_ (some 9) rfl rfl Try.func59 (by kernel_rfl) rfl #[.agg #[.int .i64 a0_0, .int .i64 a0_1], .agg #[.int .i64 a1_0, .int .i64 a1_1]] rfl zM ?_; (with_reducible refine (spec_l6Implies.calls k a0_0 a0_1 a1_0 a1_1 true _ A3.out).mono ?_); rintro e w10 ⟨rfl, hb⟩; refine ⟨_, rfl, ?_⟩; replace BK249 := zb BK249 hb; replace BK250 := zb BK250 hb; replace HB := zA (below_step (zB2 HB GE249 GE250) hb); (try clear hb); (try clear hb2); (try clear hk); (try clear hi)))
  go_loopg [5] k (fun kq v5 w' => ∃ (x5_1 : Int), v5 = .int .i64 x5_1 ∧ Aside0 (spec_l6Prime.l0 kq x5_1 a0_0 a0_1 a1_0 a1_1 = some r) ∧ Aside0 (kq ≤ k) ∧ Aside0 (w'.heap[gb249]? = some (.cells #[.int .i64 a0_0, .int .i64 a0_1] 25 (0, 0))) ∧ Aside0 (w'.heap[gb250]? = some (.cells #[.int .i64 a1_0, .int .i64 a1_1] 33 (0, 0))) ∧ Aside0 (Below w.heap.size w w'))
  case atStart => exact ⟨(0), zS, H', ⟨Nat.le_refl _⟩, ⟨zD BK249⟩, ⟨zD BK250⟩, ⟨zB2 HB GE249 GE250⟩⟩
  case round =>
   clear H'
   try clear c4
   try clear hcz8_0
   try clear hcz8_1
   try clear hcz9_0
   try clear hcz9_1
   try clear hfz8_0
   try clear hfz8_1
   try clear hfz9_0
   try clear hfz9_1
   obtain ⟨x5_1, rfl, HA, HK1, BK249, BK250, HB⟩ := hrel
   cases gk with
   | zero => exact absurd HA.out (by simp [spec_l6Prime.l0])
   | succ k1 =>
    have H := HA.out
    clear HA
    simp only [spec_l6Prime.l0] at H
    by_cases c11 : x5_1 < a0_0
    ·rw [if_pos c11] at H
     have c11b0 : decide (x5_1 < a0_0) = true := decide_eq_true c11
     clear c11
     by_cases c12 : 0 ≤ x5_1
     ·rw [if_pos c12] at H
      have c12b0 := eq_true c12
      have c12b1 : decide (0 ≤ x5_1) = true := decide_eq_true c12
      clear c12
      obtain ⟨ji13, hji13⟩ : ∃ j_ : Int, (shl .i64 1 x5_1) = j_ := ⟨_, rfl⟩
      replace H : (if (Go.bits .and .i64 a1_0 (ji13)) = 0 then (spec_l6Prime.l0 k1 (wrap64 (x5_1 + 1)) a0_0 a0_1 a1_0 a1_1) else ((spec_l6Implies.f k1 a0_0 a0_1 (wrap64 (a1_0 - (ji13))) (wrap64 (a1_1 - (Go.bits .and .i64 a1_1 (ji13))))).bind fun t252 => (if t252 = true then (some false) else (spec_l6Prime.l0 k1 (wrap64 (x5_1 + 1)) a0_0 a0_1 a1_0 a1_1)))) = some r := by first | (rw [hji13] at H; exact H) | (simp only [hji13] at H ⊢; exact H)
      have hji13_ : (IntKind.i64.wrap (1 * 2 ^ min x5_1.toNat 64)) = ji13 := hji13
      have hji13z : x5_1 ≤ 64 → (IntKind.i64.wrap (1 * 2 ^ x5_1.toNat)) = ji13 := shl_small hji13
      have hji13u : (IntKind.i64.wrap (2 ^ min x5_1.toNat 64)) = ji13 := by have h_ := hji13_; rw [Int.one_mul] at h_; exact h_
      have hji13v : x5_1 ≤ 64 → (IntKind.i64.wrap (2 ^ x5_1.toNat)) = ji13 := fun hle_ => by have h_ := hji13z hle_; rw [Int.one_mul] at h_; exact h_
      have hji13y : (wrap64 (1 * 2 ^ min x5_1.toNat 64)) = ji13 := (i64_w _).symm.trans hji13_
      have hji13x : x5_1 ≤ 64 → (wrap64 (1 * 2 ^ x5_1.toNat)) = ji13 := fun h_ => (i64_w _).symm.trans (hji13z h_)
      by_cases c14 : (Go.bits .and .i64 a1_0 (ji13)) = 0
      ·rw [if_pos c14] at H
       have c14b0 : ((Go.bits .and .i64 a1_0 (ji13)) == 0) = true := beq_iff_eq.mpr c14
       have c14b1 : ((Go.bits .and .i64 a1_0 (ji13)) != 0) = false := bne_eq_false_iff_eq.mpr c14
       clear c14
       have H' := zA H
       clear H
       have hnb15 := NB249_250.out
       have hnc15 := NB250_249.out
       have hcz16_0 := zc0 BK249
       have hcz16_1 := zc1 BK249
       have hfz16_0 := blk_frozen BK249.out 0
       have hfz16_1 := blk_frozen BK249.out 1
       have hcz17_0 := zc0 BK250
       have hcz17_1 := zc1 BK250
       have hfz17_0 := blk_frozen BK250.out 0
       have hfz17_1 := blk_frozen BK250.out 1
       go_wp2
       go_roundg k1
       case measure => have := HK1.out; omega
       case rel => exact ⟨(wrap64 (x5_1 + 1)), zS, H', ⟨by have := HK1.out; omega⟩, ⟨zD BK249⟩, ⟨zD BK250⟩, ⟨zB2 HB GE249 GE250⟩⟩
      ·rw [if_neg c14] at H
       have c14b0 : ((Go.bits .and .i64 a1_0 (ji13)) == 0) = false := beq_eq_false_iff_ne.mpr c14
       have c14b1 : ((Go.bits .and .i64 a1_0 (ji13)) != 0) = true := bne_iff_ne.mpr c14
       replace H := Option.bind_eq_some_iff.mp H
       obtain ⟨t252, A180, H⟩ := H
       replace H : (if t252 = true then (some false) else (spec_l6Prime.l0 k1 (wrap64 (x5_1 + 1)) a0_0 a0_1 a1_0 a1_1)) = some r := H
       have A18 := zA A180
       clear A180
       by_cases c19 : t252 = true
       ·subst c19
        have H1 : (some false) = some r := by rw [if_pos rfl] at H; exact H
        clear H
        have H := H1
        clear H1
        obtain rfl := Option.some.inj H
        have hnb20 := NB249_250.out
        have hnc20 := NB250_249.out
        have hcz21_0 := zc0 BK249
        have hcz21_1 := zc1 BK249
        have hfz21_0 := blk_frozen BK249.out 0
        have hfz21_1 := blk_frozen BK249.out 1
        have hcz22_0 := zc0 BK250
        have hcz22_1 := zc1 BK250
        have hfz22_0 := blk_frozen BK250.out 0
        have hfz22_1 := blk_frozen BK250.out 1
        go_wp2_with (first | (go_at_call 59; (with_reducible refine (spec_l6Implies.calls k1 a0_0 a0_1 (wrap64 (a1_0 - (ji13))) (wrap64 (a1_1 - (Go.bits .and .i64 a1_1 (ji13)))) true _ A18.out).mono ?_); rintro e w23 ⟨rfl, hb⟩; replace BK249 := zb BK249 hb; replace BK250 := zb BK250 hb; replace HB := zA (below_step (zB2 HB GE249 GE250) hb); (try clear hb); (try clear hb2); (try clear hk); (try clear hi)))
        go_ret
        exact ⟨by first | rfl | (simp [errW_none, errW_some] <;> rfl) | (simp only [← hji13]; first | rfl | (simp [errW_none, errW_some] <;> rfl)) | (simp [*, errW_none, errW_some] <;> rfl), zB2 HB GE249 GE250⟩
       ·replace c19 := Bool.eq_false_iff.mpr c19
        subst c19
        have H1 : (spec_l6Prime.l0 k1 (wrap64 (x5_1 + 1)) a0_0 a0_1 a1_0 a1_1) = some r := by rw [if_neg (show ¬ (false = true) by decide)] at H; exact H
        clear H
        have H := H1
        clear H1
        have H' := zA H
        clear H
        have hnb24 := NB249_250.out
        have hnc24 := NB250_249.out
        have hcz25_0 := zc0 BK249
        have hcz25_1 := zc1 BK249
        have hfz25_0 := blk_frozen BK249.out 0
        have hfz25_1 := blk_frozen BK249.out 1
        have hcz26_0 := zc0 BK250
        have hcz26_1 := zc1 BK250
        have hfz26_0 := blk_frozen BK250.out 0
        have hfz26_1 := blk_frozen BK250.out 1
        go_wp2_with (first | (go_at_call 59; (with_reducible refine (spec_l6Implies.calls k1 a0_0 a0_1 (wrap64 (a1_0 - (ji13))) (wrap64 (a1_1 - (Go.bits .and .i64 a1_1 (ji13)))) false _ A18.out).mono ?_); rintro e w27 ⟨rfl, hb⟩; replace BK249 := zb BK249 hb; replace BK250 := zb BK250 hb; replace HB := zA (below_step (zB2 HB GE249 GE250) hb); (try clear hb); (try clear hb2); (try clear hk); (try clear hi)))
        go_roundg k1
        case measure => have := HK1.out; omega
        case rel => exact ⟨(wrap64 (x5_1 + 1)), zS, H', ⟨by have := HK1.out; omega⟩, ⟨zD BK249⟩, ⟨zD BK250⟩, ⟨zB2 HB GE249 GE250⟩⟩
     ·rw [if_neg c12] at H
      exact absurd H (by simp)
    ·rw [if_neg c11] at H
     have c11b0 : decide (x5_1 < a0_0) = false := decide_eq_false c11
     clear c11
     obtain rfl := Option.some.inj H
     have hnb28 := NB249_250.out
     have hnc28 := NB250_249.out
     have hcz29_0 := zc0 BK249
     have hcz29_1 := zc1 BK249
     have hfz29_0 := blk_frozen BK249.out 0
     have hfz29_1 := blk_frozen BK249.out 1
     go_wp2
     go_ret
     exact ⟨zE, zB2 HB GE249 GE250⟩
 ·replace c4 := Bool.eq_false_iff.mpr c4
  subst c4
  have H1 : (some false) = some r := by rw [if_neg (show ¬ (false = true) by decide)] at H; exact H
  clear H
  have H := H1
  clear H1
  obtain rfl := Option.some.inj H
  go_enter Try.func58, Try.ntmps58
  go_wp2_with (first | ((with_reducible refine gate_dst (N := 2) rfl ?_); refine box_event ?hg (N := 2) ?hd (cs := #[.int .i64 a0_0, .int .i64 a0_1]) (t := 25) ?hr ?_; (case hd => rfl); (case hg => rfl); (case hr => exact zH); intro gb249 hg w30 hbox hb; have BK249 := zA (hbox); have GW249 := zg HB hg; have GE249 := zg HB hg; replace HB := zA (below_step (zB HB) hb); clear hb hbox hg) | ((with_reducible refine gate_dst (N := 3) rfl ?_); refine box_event ?hg (N := 3) ?hd (cs := #[.int .i64 a1_0, .int .i64 a1_1]) (t := 33) ?hr ?_; (case hd => rfl); (case hg => rfl); (case hr => exact zH); intro gb250 hg w31 hbox hb; have BK250 := zA (hbox); have GW250 := zg1 HB GE249 hg; have GE250 := zg1 HB GE249 hg; have NB249_250 := zn BK249 hg; have NB250_249 := zo BK249 hg; replace BK249 := zb BK249 hb; replace HB := zA (below_step (zB1 HB GE249) hb); clear hb hbox hg; have hnb32 := NB249_250.out; have hnc32 := NB250_249.out; have hcz33_0 := zc0 BK249; have hcz33_1 := zc1 BK249; have hfz33_0 := blk_frozen BK249.out 0; have hfz33_1 := blk_frozen BK249.out 1; have hcz34_0 := zc0 BK250; have hcz34_1 := zc1 BK250; have hfz34_0 := blk_frozen BK250.out 0; have hfz34_1 := blk_frozen BK250.out 1) | ((with_reducible refine gate_callee (f := 59) rfl ?_); refine goesL_ (some 9) rfl rfl Try.func59 (by kernel_rfl) rfl #[.agg #[.int .i64 a0_0, .int .i64 a0_1], .agg #[.int .i64 a1_0, .int .i64 a1_1]] rfl zM ?_; (with_reducible refine (spec_l6Implies.calls k a0_0 a0_1 a1_0 a1_1 false _ A3.out).mono ?_); rintro e w35 ⟨rfl, hb⟩; refine ⟨_, rfl, ?_⟩; replace BK249 := zb BK249 hb; replace BK250 := zb BK250 hb; replace HB := zA (below_step (zB2 HB GE249 GE250) hb); (try clear hb); (try clear hb2); (try clear hk); (try clear hi)))
  go_ret
  exact ⟨zE, zB2 HB GE249 GE250⟩

end Go.Proofs.Ytfiejicdlaknnaa.P
