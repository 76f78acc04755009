/- The functions that this seat's laws reach, each as a plain Lean function, and the walk of each; written by a program over the kit's print. No conditions but those that stand in the theorems. -/
import Derived.Test.YtijpcemcijaeeaaP0
namespace Go.Proofs.Ytijpcemcijaeeaa.P
open Go.RowKit Go.Proofs.YtijpcemcijaeeaaW.PrintWords Go.Proofs.YtijpcemcijaeeaaW.PrintLast Go.Proofs.YtijpcemcijaeeaaW.PrintMore
attribute [local go_sem] max2_int min2_int max_two min_two max_three min_three max_four min_four   -- for this text's walks alone
set_option linter.unusedVariables false
set_option linter.unusedSimpArgs false

attribute [local go_sem] fld23_0 fld23_1
/-! ### spec_l3Shift: function 94 -/
def spec_l3Shift.l0 : Nat → Int → Int → Int → Int → Int → Option (Int × Int)
 | 0, _, _, _, _, _ => none
 | k + 1, x1, x5, x6, x234000, x234001 => if 0 ≤ x234000 then (if x6 < (shl .i64 1 x234000) then (if 0 ≤ x6 then (if 0 ≤ (Go.bits .xor .i64 x6 x1) then (spec_l3Shift.l0 k x1 (Go.bits .or .i64 x5 (shl .i64 (Go.bits .and .i64 (shr .i64 x234001 x6) 1) (Go.bits .xor .i64 x6 x1))) (wrap64 (x6 + 1)) x234000 x234001) else (none)) else (none)) else (some (x234000, x5))) else (none)
def spec_l3Shift.f (k : Nat) (a0_0 : Int) (a0_1 : Int) (a1 : Int) : Option (Int × Int) := spec_l3Shift.l0 k a1 0 0 a0_0 a0_1
theorem spec_l3Shift.mono_l : ∀ k, (∀ y0 y1 y2 y3 y4, LeO (spec_l3Shift.l0 k y0 y1 y2 y3 y4) (spec_l3Shift.l0 (k + 1) y0 y1 y2 y3 y4))
 | 0 => fun _ _ _ _ _ r h => by simp [spec_l3Shift.l0] at h
 | k + 1 => by
  have ih0 := spec_l3Shift.mono_l k
  ·intro y0 y1 y2 y3 y4
   unfold spec_l3Shift.l0
   repeat' first
   | (with_reducible exact ih0 _ _ _ _ _)
   | (with_reducible exact LeO.refl _)
   | (with_reducible exact LeO.none _)
   | (with_reducible refine LeO.ite ?_ ?_)
   | (with_reducible refine LeO.bind ?_ (fun _ => ?_))
   | exact ih0 _ _ _ _ _
   | exact LeO.none _
   | refine LeO.ite ?_ ?_
   | refine LeO.bind ?_ (fun _ => ?_)
theorem spec_l3Shift.mono : ∀ a0 a1 a2 k, LeO (spec_l3Shift.f k a0 a1 a2) (spec_l3Shift.f (k + 1) a0 a1 a2) := by
 intro a0 a1 a2 k
 have ih0 := spec_l3Shift.mono_l k
 unfold spec_l3Shift.f
 repeat' first
   | (with_reducible exact ih0 _ _ _ _ _)
   | (with_reducible exact LeO.refl _)
   | (with_reducible exact LeO.none _)
   | (with_reducible refine LeO.ite ?_ ?_)
   | (with_reducible refine LeO.bind ?_ (fun _ => ?_))
   | exact ih0 _ _ _ _ _
   | exact LeO.none _
   | refine LeO.ite ?_ ?_
   | refine LeO.bind ?_ (fun _ => ?_)
set_option maxHeartbeats 8000000 in
set_option maxRecDepth 100000 in
theorem spec_l3Shift.calls (k : Nat) (a0_0 : Int) (a0_1 : Int) (a1 : Int) (r1 : Int) (r2 : Int) (w : World) (h : spec_l3Shift.f k a0_0 a0_1 a1 = some (r1, r2)) :
  Calls Try.prog 94 #[.agg #[.int .i64 a0_0, .int .i64 a0_1], .int .i64 a1] w fun e w' => e = .returned (.agg #[.int .i64 r1, .int .i64 r2]) ∧ Below w.heap.size w w' := by
 have hu23 := Try.underlying23
 have HB := zA (Below.refl w.heap.size w)
 have H : (spec_l3Shift.l0 k a1 0 0 a0_0 a0_1) = some (r1, r2) := h
 clear h
 have H' := zA H
 clear H
 go_enter Try.func94, Try.ntmps94
 go_wp2_with (first | ((with_reducible refine gate_dst (N := 2) rfl ?_); refine box_event ?hg (N := 2) ?hd (cs := #[.int .i64 a0_0, .int .i64 a0_1]) (t := 23) ?hr ?_; (case hd => rfl); (case hg => rfl); (case hr => exact zH); intro gb233 hg w3 hbox hb; have BK233 := zA (hbox); have GW233 := zg HB hg; have GE233 := zg HB hg; replace HB := zA (below_step (zB HB) hb); clear hb hbox hg) | ((with_reducible refine gate_dst (N := 4) rfl ?_); refine box_event ?hg (N := 4) ?hd (cs := #[.int .i64 0, .int .i64 0]) (t := 23) ?hr ?_; (case hd => rfl); (case hg => rfl); (case hr => exact zH); intro gb234 hg w4 hbox hb; have BK234 := zA (hbox); have GW234 := zg1 HB GE233 hg; have GE234 := zg1 HB GE233 hg; have NB233_234 := zn BK233 hg; have NB234_233 := zo BK233 hg; replace BK233 := zb BK233 hb; replace HB := zA (below_step (zB1 HB GE233) hb); clear hb hbox hg))
 go_loopg [5, 6] k (fun kq v5 v6 w' => ∃ (x5_1 : Int) (x6_1 : Int), v5 = .int .i64 x5_1 ∧ v6 = .int .i64 x6_1 ∧ Aside0 (spec_l3Shift.l0 kq a1 x5_1 x6_1 a0_0 a0_1 = some (r1, r2)) ∧ Aside0 (kq ≤ k) ∧ Aside0 (w'.heap[gb233]? = some (.cells #[.int .i64 a0_0, .int .i64 a0_1] 23 (0, 0))) ∧ Aside0 (w'.heap[gb234]? = some (.cells #[.int .i64 0, .int .i64 0] 23 (0, 0))) ∧ Aside0 (Below w.heap.size w w'))
 case atStart => exact ⟨(0), (0), zS, zS, H', ⟨Nat.le_refl _⟩, ⟨zD BK233⟩, ⟨zD BK234⟩, ⟨zB2 HB GE233 GE234⟩⟩
 case round =>
  clear H'
  try clear p2
  obtain ⟨x5_1, x6_1, rfl, rfl, HA, HK1, BK233, BK234, HB⟩ := hrel
  cases gk with
  | zero => exact absurd HA.out (by simp [spec_l3Shift.l0])
  | succ k1 =>
   have H := HA.out
   clear HA
   simp only [spec_l3Shift.l0] at H
   by_cases c5 : 0 ≤ a0_0
   ·rw [if_pos c5] at H
    have c5b0 := eq_true c5
    have c5b1 : decide (0 ≤ a0_0) = true := decide_eq_true c5
    clear c5
    obtain ⟨ji6, hji6⟩ : ∃ j_ : Int, (shl .i64 1 a0_0) = j_ := ⟨_, rfl⟩
    replace H : (if x6_1 < (ji6) then (if 0 ≤ x6_1 then (if 0 ≤ (Go.bits .xor .i64 x6_1 a1) then (spec_l3Shift.l0 k1 a1 (Go.bits .or .i64 x5_1 (shl .i64 (Go.bits .and .i64 (shr .i64 a0_1 x6_1) 1) (Go.bits .xor .i64 x6_1 a1))) (wrap64 (x6_1 + 1)) a0_0 a0_1) else (none)) else (none)) else (some (a0_0, x5_1))) = some (r1, r2) := by first | (rw [hji6] at H; exact H) | (simp only [hji6] at H ⊢; exact H)
    have hji6_ : (IntKind.i64.wrap (1 * 2 ^ min a0_0.toNat 64)) = ji6 := hji6
    have hji6z : a0_0 ≤ 64 → (IntKind.i64.wrap (1 * 2 ^ a0_0.toNat)) = ji6 := shl_small hji6
    have hji6u : (IntKind.i64.wrap (2 ^ min a0_0.toNat 64)) = ji6 := by have h_ := hji6_; rw [Int.one_mul] at h_; exact h_
    have hji6v : a0_0 ≤ 64 → (IntKind.i64.wrap (2 ^ a0_0.toNat)) = ji6 := fun hle_ => by have h_ := hji6z hle_; rw [Int.one_mul] at h_; exact h_
    have hji6y : (wrap64 (1 * 2 ^ min a0_0.toNat 64)) = ji6 := (i64_w _).symm.trans hji6_
    have hji6x : a0_0 ≤ 64 → (wrap64 (1 * 2 ^ a0_0.toNat)) = ji6 := fun h_ => (i64_w _).symm.trans (hji6z h_)
    by_cases c7 : x6_1 < (ji6)
    ·rw [if_pos c7] at H
     have c7b0 : decide (x6_1 < (ji6)) = true := decide_eq_true c7
     clear c7
     by_cases c8 : 0 ≤ x6_1
     ·rw [if_pos c8] at H
      have c8b0 := eq_true c8
      have c8b1 : decide (0 ≤ x6_1) = true := decide_eq_true c8
      clear c8
      obtain ⟨ji9, hji9⟩ : ∃ j_ : Int, (shr .i64 a0_1 x6_1) = j_ := ⟨_, rfl⟩
      replace H : (if 0 ≤ (Go.bits .xor .i64 x6_1 a1) then (spec_l3Shift.l0 k1 a1 (Go.bits .or .i64 x5_1 (shl .i64 (Go.bits .and .i64 (ji9) 1) (Go.bits .xor .i64 x6_1 a1))) (wrap64 (x6_1 + 1)) a0_0 a0_1) else (none)) = some (r1, r2) := by first | (rw [hji9] at H; exact H) | (simp only [hji9] at H ⊢; exact H)
      have hji9_ : (a0_1 / 2 ^ min x6_1.toNat 64) = ji9 := hji9
      have hji9z : x6_1 ≤ 64 → (a0_1 / 2 ^ x6_1.toNat) = ji9 := shr_small hji9
      by_cases c10 : 0 ≤ (Go.bits .xor .i64 x6_1 a1)
      ·rw [if_pos c10] at H
       have c10b0 := eq_true c10
       have c10b1 : decide (0 ≤ (Go.bits .xor .i64 x6_1 a1)) = true := decide_eq_true c10
       clear c10
       obtain ⟨ji11, hji11⟩ : ∃ j_ : Int, (shl .i64 (Go.bits .and .i64 (ji9) 1) (Go.bits .xor .i64 x6_1 a1)) = j_ := ⟨_, rfl⟩
       replace H : (spec_l3Shift.l0 k1 a1 (Go.bits .or .i64 x5_1 (ji11)) (wrap64 (x6_1 + 1)) a0_0 a0_1) = some (r1, r2) := by first | (rw [hji11] at H; exact H) | (simp only [hji11] at H ⊢; exact H)
       have hji11_ : (IntKind.i64.wrap ((Go.bits .and .i64 (ji9) 1) * 2 ^ min (Go.bits .xor .i64 x6_1 a1).toNat 64)) = ji11 := hji11
       have hji11z : (Go.bits .xor .i64 x6_1 a1) ≤ 64 → (IntKind.i64.wrap ((Go.bits .and .i64 (ji9) 1) * 2 ^ (Go.bits .xor .i64 x6_1 a1).toNat)) = ji11 := shl_small hji11
       have hji11y : (wrap64 ((Go.bits .and .i64 (ji9) 1) * 2 ^ min (Go.bits .xor .i64 x6_1 a1).toNat 64)) = ji11 := (i64_w _).symm.trans hji11_
       have hji11x : (Go.bits .xor .i64 x6_1 a1) ≤ 64 → (wrap64 ((Go.bits .and .i64 (ji9) 1) * 2 ^ (Go.bits .xor .i64 x6_1 a1).toNat)) = ji11 := fun h_ => (i64_w _).symm.trans (hji11z h_)
       have H' := zA H
       clear H
       have hnb12 := NB233_234.out
       have hnc12 := NB234_233.out
       have hcz13_0 := zc0 BK233
       have hcz13_1 := zc1 BK233
       have hfz13_0 := blk_frozen BK233.out 0
       have hfz13_1 := blk_frozen BK233.out 1
       go_wp2
       go_roundg k1
       case measure => have := HK1.out; omega
       case rel => exact ⟨(Go.bits .or .i64 x5_1 (ji11)), (wrap64 (x6_1 + 1)), (by first | rfl | (simp; done) | (simp only [← hji11] <;> (first | rfl | simp)) | (simp [*]; done)), zS, H', ⟨by have := HK1.out; omega⟩, ⟨zD BK233⟩, ⟨zD BK234⟩, ⟨zB2 HB GE233 GE234⟩⟩
      ·rw [if_neg c10] at H
       exact absurd H (by simp)
     ·rw [if_neg c8] at H
      exact absurd H (by simp)
    ·rw [if_neg c7] at H
     have c7b0 : decide (x6_1 < (ji6)) = false := decide_eq_false c7
     clear c7
     simp only [Option.some.injEq, Prod.mk.injEq] at H
     obtain ⟨rfl, rfl⟩ := H
     have hnb14 := NB233_234.out
     have hnc14 := NB234_233.out
     have hcz15_0 := zc0 BK233
     have hcz15_1 := zc1 BK233
     have hfz15_0 := blk_frozen BK233.out 0
     have hfz15_1 := blk_frozen BK233.out 1
     have hcz16_0 := zc0 BK234
     have hcz16_1 := zc1 BK234
     have hfz16_0 := blk_frozen BK234.out 0
     have hfz16_1 := blk_frozen BK234.out 1
     go_wp2
     refine bodyPost_ret (results_cell_row rfl _ _ gb234 23 #[.int .i64 a0_0, .int .i64 x5_1] (0, 0) _ rfl (zP BK234) Try.underlying23 rfl (by kernel_rfl)) rfl ?_
     exact ⟨by first | rfl | (simp [errW_none, errW_some] <;> rfl) | (simp only [← hji6]; first | rfl | (simp [errW_none, errW_some] <;> rfl)) | (simp [*, errW_none, errW_some] <;> rfl), zB2 HB GE233 GE234⟩
   ·rw [if_neg c5] at H
    exact absurd H (by simp)

/-! ### impl_isInput: function 128 -/
def impl_isInput.f (a0 : Int) (a1 : Int) : Option (Bool) := if a1 ≥ 0 then (if 0 ≤ a0 then (some (decide (a1 < (shl .i64 1 a0)))) else (none)) else (some false)
set_option maxHeartbeats 8000000 in
set_option maxRecDepth 100000 in
theorem impl_isInput.calls (a0 : Int) (a1 : Int) (r : Bool) (w : World) (h : impl_isInput.f a0 a1 = some r) :
  Calls Try.prog 128 #[.int .i64 a0, .int .i64 a1] w fun e w' => e = .returned (.bool r) ∧ Drawn0 w w' := by
 have H := h
 unfold impl_isInput.f at H
 clear h
 by_cases c3 : a1 ≥ 0
 ·rw [if_pos c3] at H
  have c3b0 : decide (0 ≤ a1) = true := decide_eq_true c3
  clear c3
  by_cases c4 : 0 ≤ a0
  ·rw [if_pos c4] at H
   have c4b0 := eq_true c4
   have c4b1 : decide (0 ≤ a0) = true := decide_eq_true c4
   clear c4
   obtain ⟨ji5, hji5⟩ : ∃ j_ : Int, (shl .i64 1 a0) = j_ := ⟨_, rfl⟩
   replace H : (some (decide (a1 < (ji5)))) = some r := by first | (rw [hji5] at H; exact H) | (simp only [hji5] at H ⊢; exact H)
   have hji5_ : (IntKind.i64.wrap (1 * 2 ^ min a0.toNat 64)) = ji5 := hji5
   have hji5z : a0 ≤ 64 → (IntKind.i64.wrap (1 * 2 ^ a0.toNat)) = ji5 := shl_small hji5
   have hji5u : (IntKind.i64.wrap (2 ^ min a0.toNat 64)) = ji5 := by have h_ := hji5_; rw [Int.one_mul] at h_; exact h_
   have hji5v : a0 ≤ 64 → (IntKind.i64.wrap (2 ^ a0.toNat)) = ji5 := fun hle_ => by have h_ := hji5z hle_; rw [Int.one_mul] at h_; exact h_
   have hji5y : (wrap64 (1 * 2 ^ min a0.toNat 64)) = ji5 := (i64_w _).symm.trans hji5_
   have hji5x : a0 ≤ 64 → (wrap64 (1 * 2 ^ a0.toNat)) = ji5 := fun h_ => (i64_w _).symm.trans (hji5z h_)
   obtain rfl := Option.some.inj H
   go_enter Try.func128, Try.ntmps128
   go_wp2
   go_ret
   exact ⟨by first | rfl | (simp; done) | (simp only [← hji5] <;> (first | rfl | simp)) | (simp [*]; done), by repeat (first | exact Drawn0.refl _ | apply Drawn0.step)⟩
  ·rw [if_neg c4] at H
   exact absurd H (by simp)
 ·rw [if_neg c3] at H
  have c3b0 : decide (0 ≤ a1) = false := decide_eq_false c3
  clear c3
  obtain rfl := Option.some.inj H
  go_enter Try.func128, Try.ntmps128
  go_wp2
  go_ret
  exact ⟨by first | rfl | (simp; done) | (simp [*]; done), by repeat (first | exact Drawn0.refl _ | apply Drawn0.step)⟩

end Go.Proofs.Ytijpcemcijaeeaa.P
