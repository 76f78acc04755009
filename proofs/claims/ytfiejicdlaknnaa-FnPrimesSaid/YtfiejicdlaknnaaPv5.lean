/- The functions that this seat's laws reach, each as a plain Lean function, and the walk of each; written by a program over the kit's print. No conditions but those that stand in the theorems. -/
import Derived.Test.YtfiejicdlaknnaaK2
import Derived.Test.YtfiejicdlaknnaaPm1
import Derived.Test.YtfiejicdlaknnaaPz3
namespace Go.Proofs.Ytfiejicdlaknnaa.P
open Go.RowKit Go.Proofs.YtfiejicdlaknnaaW.PrintWords Go.Proofs.YtfiejicdlaknnaaW.PrintLast Go.Proofs.YtfiejicdlaknnaaW.PrintMore
attribute [local go_sem] max2_int min2_int max_two min_two max_three min_three max_four min_four   -- for this text's walks alone
set_option linter.unusedVariables false
set_option linter.unusedSimpArgs false

attribute [local go_sem] fld25_0 fld25_1
/-! ### impl_isSmall: function 34 -/
def impl_isSmall.f (a0_0 : Int) (a0_1 : Int) (a1 : Int) : Option (Bool) := (impl_IsTable.f a0_0 a0_1).bind fun t188 => (if t188 = true then (some (decide (a0_0 ≤ a1))) else (some false))
set_option maxHeartbeats 8000000 in
set_option maxRecDepth 100000 in
theorem impl_isSmall.calls (a0_0 : Int) (a0_1 : Int) (a1 : Int) (r : Bool) (w : World) (h : impl_isSmall.f a0_0 a0_1 a1 = some r) :
  Calls Try.prog 34 #[.agg #[.int .i64 a0_0, .int .i64 a0_1], .int .i64 a1] w fun e w' => e = .returned (.bool r) ∧ Below w.heap.size w w' := by
 have hu25 := Try.underlying25
 have HB := zA (Below.refl w.heap.size w)
 have H := h
 unfold impl_isSmall.f at H
 clear h
 replace H := Option.bind_eq_some_iff.mp H
 obtain ⟨t188, A30, H⟩ := H
 replace H : (if t188 = true then (some (decide (a0_0 ≤ a1))) else (some false)) = some r := H
 have A3 := zA A30
 clear A30
 by_cases c4 : t188 = true
 ·subst c4
  have H1 : (some (decide (a0_0 ≤ a1))) = some r := by rw [if_pos rfl] at H; exact H
  clear H
  have H := H1
  clear H1
  obtain rfl := Option.some.inj H
  go_enter Try.func34, Try.ntmps34
  go_wp2_with (first | ((with_reducible refine gate_dst (N := 2) rfl ?_); refine box_event ?hg (N := 2) ?hd (cs := #[.int .i64 a0_0, .int .i64 a0_1]) (t := 25) ?hr ?_; (case hd => rfl); (case hg => rfl); (case hr => exact zH); intro gb187 hg w5 hbox hb; have BK187 := zA (hbox); have GW187 := zg HB hg; have GE187 := zg HB hg; replace HB := zA (below_step (zB HB) hb); clear hb hbox hg; have hcz6_0 := zc0 BK187; have hcz6_1 := zc1 BK187; have hfz6_0 := blk_frozen BK187.out 0; have hfz6_1 := blk_frozen BK187.out 1) | ((with_reducible refine gate_callee (f := 39) rfl ?_); refine goesL_ (some 6) rfl rfl Try.func39 (by kernel_rfl) rfl #[.agg #[.int .i64 a0_0, .int .i64 a0_1]] rfl zM ?_; (with_reducible refine (impl_IsTable.calls a0_0 a0_1 true _ A3.out).mono ?_); rintro e w7 ⟨rfl, hb⟩; refine ⟨_, rfl, ?_⟩; replace BK187 := zb BK187 hb; replace HB := zA (below_step (zB1 HB GE187) hb); (try clear hb); (try clear hb2); (try clear hk); (try clear hi); have hcz8_0 := zc0 BK187; have hcz8_1 := zc1 BK187; have hfz8_0 := blk_frozen BK187.out 0; have hfz8_1 := blk_frozen BK187.out 1))
  go_ret
  exact ⟨zE, zB1 HB GE187⟩
 ·replace c4 := Bool.eq_false_iff.mpr c4
  subst c4
  have H1 : (some false) = some r := by rw [if_neg (show ¬ (false = true) by decide)] at H; exact H
  clear H
  have H := H1
  clear H1
  obtain rfl := Option.some.inj H
  go_enter Try.func34, Try.ntmps34
  go_wp2_with (first | ((with_reducible refine gate_dst (N := 2) rfl ?_); refine box_event ?hg (N := 2) ?hd (cs := #[.int .i64 a0_0, .int .i64 a0_1]) (t := 25) ?hr ?_; (case hd => rfl); (case hg => rfl); (case hr => exact zH); intro gb187 hg w9 hbox hb; have BK187 := zA (hbox); have GW187 := zg HB hg; have GE187 := zg HB hg; replace HB := zA (below_step (zB HB) hb); clear hb hbox hg; have hcz10_0 := zc0 BK187; have hcz10_1 := zc1 BK187; have hfz10_0 := blk_frozen BK187.out 0; have hfz10_1 := blk_frozen BK187.out 1) | ((with_reducible refine gate_callee (f := 39) rfl ?_); refine goesL_ (some 6) rfl rfl Try.func39 (by kernel_rfl) rfl #[.agg #[.int .i64 a0_0, .int .i64 a0_1]] rfl zM ?_; (with_reducible refine (impl_IsTable.calls a0_0 a0_1 false _ A3.out).mono ?_); rintro e w11 ⟨rfl, hb⟩; refine ⟨_, rfl, ?_⟩; replace BK187 := zb BK187 hb; replace HB := zA (below_step (zB1 HB GE187) hb); (try clear hb); (try clear hb2); (try clear hk); (try clear hi)))
  go_ret
  exact ⟨zE, zB1 HB GE187⟩

/-! ### impl_choose: function 62 -/
mutual
def impl_choose.l0 : Nat → List Int → Int → Int → Int → Int → Option (List Int × Bool)
 | 0, _, _, _, _, _ => none
 | k + 1, x0, x1, x2, x4, x12 => if x12 ≤ (wrap64 ((x0.length : Int) - x4)) then (if 0 ≤ x12 then (if x12 < (x0.length : Int) then (if (Go.bits .andNot .i64 (rd x0 x12) x2) = 0 then (impl_choose.l0 k x0 x1 x2 x4 (wrap64 (x12 + 1))) else ((impl_choose.f k x0 x1 (Go.bits .or .i64 x2 (rd x0 x12)) (wrap64 (x12 + 1)) (wrap64 (x4 - 1))).bind fun bt206 => (if bt206.2 = true then ((some (([x12] : List Int) : List Int)).bind fun y210 => (if y210.length + bt206.1.length < 17592186044416 then (some ((y210 ++ bt206.1), true)) else (none))) else (impl_choose.l0 k x0 x1 x2 x4 (wrap64 (x12 + 1)))))) else (none)) else (none)) else (some (([] : List Int), false))
def impl_choose.f : Nat → List Int → Int → Int → Int → Int → Option (List Int × Bool)
 | 0, _, _, _, _, _ => none
 | k + 1, l0, a1, a2, a3, a4 => if a4 = 0 then (some (([] : List Int), (a2 == a1))) else (impl_choose.l0 k l0 a1 a2 a4 a3)
end
theorem impl_choose.mono_l : ∀ k, (∀ y0 y1 y2 y3 y4, LeO (impl_choose.f k y0 y1 y2 y3 y4) (impl_choose.f (k + 1) y0 y1 y2 y3 y4)) ∧ (∀ y0 y1 y2 y3 y4, LeO (impl_choose.l0 k y0 y1 y2 y3 y4) (impl_choose.l0 (k + 1) y0 y1 y2 y3 y4))
 | 0 => ⟨fun _ _ _ _ _ r h => by simp [impl_choose.f] at h, fun _ _ _ _ _ r h => by simp [impl_choose.l0] at h⟩
 | k + 1 => by
  obtain ⟨ih0, ih1⟩ := impl_choose.mono_l k
  refine ⟨?_, ?_⟩
  ·intro y0 y1 y2 y3 y4
   unfold impl_choose.f
   repeat' first
   | (with_reducible exact ih0 _ _ _ _ _)
   | (with_reducible exact ih1 _ _ _ _ _)
   | (with_reducible exact LeO.refl _)
   | (with_reducible exact LeO.none _)
   | (with_reducible refine LeO.ite ?_ ?_)
   | (with_reducible refine LeO.bind ?_ (fun _ => ?_))
   | exact ih0 _ _ _ _ _
   | exact ih1 _ _ _ _ _
   | exact LeO.none _
   | refine LeO.ite ?_ ?_
   | refine LeO.bind ?_ (fun _ => ?_)
  ·intro y0 y1 y2 y3 y4
   unfold impl_choose.l0
   repeat' first
   | (with_reducible exact ih0 _ _ _ _ _)
   | (with_reducible exact ih1 _ _ _ _ _)
   | (with_reducible exact LeO.refl _)
   | (with_reducible exact LeO.none _)
   | (with_reducible refine LeO.ite ?_ ?_)
   | (with_reducible refine LeO.bind ?_ (fun _ => ?_))
   | exact ih0 _ _ _ _ _
   | exact ih1 _ _ _ _ _
   | exact LeO.none _
   | refine LeO.ite ?_ ?_
   | refine LeO.bind ?_ (fun _ => ?_)
theorem impl_choose.mono : ∀ a0 a1 a2 a3 a4 k, LeO (impl_choose.f k a0 a1 a2 a3 a4) (impl_choose.f (k + 1) a0 a1 a2 a3 a4) := by
 intro a0 a1 a2 a3 a4 k
 obtain ⟨ih0, ih1⟩ := impl_choose.mono_l k
 exact ih0 a0 a1 a2 a3 a4
set_option maxHeartbeats 8000000 in
set_option maxRecDepth 100000 in
theorem impl_choose.calls (k : Nat) : ∀ (A0 : Option Addr) (c0 : Nat) (l0 : List Int) (a1 : Int) (a2 : Int) (a3 : Int) (a4 : Int) (r1 : List Int) (r2 : Bool) (w : World) (hr0 : Kd.C (Kd.int .i64) w A0 l0.length l0) (hc0 : l0.length ≤ c0) (h : impl_choose.f k l0 a1 a2 a3 a4 = some (r1, r2)),
  Calls Try.prog 62 #[.slice A0 l0.length c0, .int .i64 a1, .int .i64 a2, .int .i64 a3, .int .i64 a4] w fun e w' => ∃ v0_ : Value, e = .returned (.tuple #[v0_, .bool r2]) ∧ Kd.R (Kd.int .i64) 3 w' w.heap.size (fun _ => True) v0_ r1 ∧ Below w.heap.size w w' := by
 induction k using Nat.strongRecOn with
 | _ k ih =>
 intro A0 c0 l0 a1 a2 a3 a4 r1 r2 w hr0 hc0 h
 cases k with
 | zero => exact absurd h (by simp [impl_choose.f])
 | succ k =>
 simp only [impl_choose.f] at h
 have HR0 := zA hr0
 have HC0 := zA hc0
 clear hr0 hc0
 have HB := zA (Below.refl w.heap.size w)
 have H := h
 unfold impl_choose.f at H
 clear h
 by_cases c6 : a4 = 0
 ·rw [if_pos c6] at H
  have c6b0 : (a4 == 0) = true := beq_iff_eq.mpr c6
  have c6b1 : (a4 != 0) = false := bne_eq_false_iff_eq.mpr c6
  clear c6
  simp only [Option.some.injEq, Prod.mk.injEq] at H
  obtain ⟨rfl, rfl⟩ := H
  go_enter Try.func62, Try.ntmps62
  go_wp2
  go_ret2
  exact ⟨_, zE, by first | exact Kd.R_nil _ _ _ _ _ | exact Kd.N_nil _ _ _ _ _ | exact Kd.V_nil _ _ _ _ _ | exact Kd.Q_nil _ _ _ _ _ | exact Kd.S_nil _ _ _ _ _, zB HB⟩
 ·rw [if_neg c6] at H
  have c6b0 : (a4 == 0) = false := beq_eq_false_iff_ne.mpr c6
  have c6b1 : (a4 != 0) = true := bne_iff_ne.mpr c6
  have H' := zA H
  clear H
  go_enter Try.func62, Try.ntmps62
  go_wp2
  go_loopg [12] k (fun kq v12 w' => ∃ (x12_1 : Int), v12 = .int .i64 x12_1 ∧ Aside0 (impl_choose.l0 kq l0 a1 a2 a4 x12_1 = some (r1, r2)) ∧ Aside0 (kq ≤ k) ∧ Aside0 (Below w.heap.size w w'))
  case atStart => exact ⟨(a3), zS, H', ⟨Nat.le_refl _⟩, ⟨zB HB⟩⟩
  case round =>
   clear H'
   try clear c6
   try clear c6b0
   try clear c6b1
   obtain ⟨x12_1, rfl, HA, HK1, HB⟩ := hrel
   cases gk with
   | zero => exact absurd HA.out (by simp [impl_choose.l0])
   | succ k1 =>
    have H := HA.out
    clear HA
    simp only [impl_choose.l0] at H
    by_cases c7 : x12_1 ≤ (wrap64 ((l0.length : Int) - a4))
    ·rw [if_pos c7] at H
     have c7b0 : decide (x12_1 ≤ (wrap64 ((l0.length : Int) - a4))) = true := decide_eq_true c7
     clear c7
     by_cases c8 : 0 ≤ x12_1
     ·rw [if_pos c8] at H
      have c8b0 : decide (0 ≤ x12_1) = true := decide_eq_true c8
      clear c8
      by_cases c9 : x12_1 < (l0.length : Int)
      ·rw [if_pos c9] at H
       have c9b0 : decide (x12_1 < (l0.length : Int)) = true := decide_eq_true c9
       clear c9
       by_cases c10 : (Go.bits .andNot .i64 (rd l0 x12_1) a2) = 0
       ·rw [if_pos c10] at H
        have c10b0 : ((Go.bits .andNot .i64 (rd l0 x12_1) a2) == 0) = true := beq_iff_eq.mpr c10
        have c10b1 : ((Go.bits .andNot .i64 (rd l0 x12_1) a2) != 0) = false := bne_eq_false_iff_eq.mpr c10
        clear c10
        have H' := zA H
        clear H
        have p204 : 0 ≤ (x12_1 : Int) := of_decide_eq_true (by first | (with_reducible assumption) | assumption)
        have q204 : x12_1 < (l0.length : Int) := of_decide_eq_true (by first | (with_reducible assumption) | assumption)
        obtain ⟨ad204, e204, hx204_0⟩ := Kd.at_int HR0.out x12_1 p204 q204
        cases e204
        replace hx204_0 := (HB.out.cell (World.block_lt_of_cell? w _ hx204_0)).trans hx204_0
        replace p204 := eq_true p204
        replace q204 := eq_true q204
        go_wp2
        go_roundg k1
        case measure => have := HK1.out; omega
        case rel => exact ⟨(wrap64 (x12_1 + 1)), zS, H', ⟨by have := HK1.out; omega⟩, ⟨zB HB⟩⟩
       ·rw [if_neg c10] at H
        have c10b0 : ((Go.bits .andNot .i64 (rd l0 x12_1) a2) == 0) = false := beq_eq_false_iff_ne.mpr c10
        have c10b1 : ((Go.bits .andNot .i64 (rd l0 x12_1) a2) != 0) = true := bne_iff_ne.mpr c10
        replace H := Option.bind_eq_some_iff.mp H
        obtain ⟨⟨t206, t207⟩, A110, H⟩ := H
        replace H : (if t207 = true then ((some (([x12_1] : List Int) : List Int)).bind fun y210 => (if y210.length + t206.length < 17592186044416 then (some ((y210 ++ t206), true)) else (none))) else (impl_choose.l0 k1 l0 a1 a2 a4 (wrap64 (x12_1 + 1)))) = some (r1, r2) := H
        have A11 := zA A110
        clear A110
        by_cases c12 : t207 = true
        ·subst c12
         have H1 : ((some (([x12_1] : List Int) : List Int)).bind fun y210 => (if y210.length + t206.length < 17592186044416 then (some ((y210 ++ t206), true)) else (none))) = some (r1, r2) := by rw [if_pos rfl] at H; exact H
         clear H
         have H := H1
         clear H1
         obtain ⟨y210, hy210⟩ : ∃ y_ : List Int, y_ = (([x12_1] : List Int)) := ⟨_, rfl⟩
         replace H : (if y210.length + t206.length < 17592186044416 then (some ((y210 ++ t206), true)) else (none)) = some (r1, r2) := by first | (rw [hy210]; with_reducible exact H) | (have H2_ := (Option.bind_some _ _).symm.trans H; rw [hy210]; with_reducible exact H2_) | (have H2_ := (Option.bind_some _ _).symm.trans H; with_reducible exact H2_) | with_reducible exact H | (rw [hy210]; exact H) | exact H
         have Ny210 := zA hy210
         clear hy210
         by_cases c13 : y210.length + t206.length < 17592186044416
         ·rw [if_pos c13] at H
          have LMc13 := zA c13
          clear c13
          obtain ⟨y213, hy213⟩ : ∃ y_ : List Int, y_ = (y210 ++ t206) := ⟨_, rfl⟩
          replace H : (some (y213, true)) = some (r1, r2) := by first | (rw [hy213]; with_reducible exact H) | (have H2_ := (Option.bind_some _ _).symm.trans H; rw [hy213]; with_reducible exact H2_) | (have H2_ := (Option.bind_some _ _).symm.trans H; with_reducible exact H2_) | with_reducible exact H | (rw [hy213]; exact H) | exact H
          have Ny213 := zA hy213
          clear hy213
          simp only [Option.some.injEq, Prod.mk.injEq] at H
          obtain ⟨rfl, rfl⟩ := H
          have p204 : 0 ≤ (x12_1 : Int) := of_decide_eq_true (by first | (with_reducible assumption) | assumption)
          have q204 : x12_1 < (l0.length : Int) := of_decide_eq_true (by first | (with_reducible assumption) | assumption)
          obtain ⟨ad204, e204, hx204_0⟩ := Kd.at_int HR0.out x12_1 p204 q204
          cases e204
          replace hx204_0 := (HB.out.cell (World.block_lt_of_cell? w _ hx204_0)).trans hx204_0
          replace p204 := eq_true p204
          replace q204 := eq_true q204
          have p205 : 0 ≤ (x12_1 : Int) := of_decide_eq_true (by first | (with_reducible assumption) | assumption)
          have q205 : x12_1 < (l0.length : Int) := of_decide_eq_true (by first | (with_reducible assumption) | assumption)
          obtain ⟨ad205, e205, hx205_0⟩ := Kd.at_int HR0.out x12_1 p205 q205
          obtain rfl : ad204 = ad205 := (by injection e205)
          replace hx205_0 := (HB.out.cell (World.block_lt_of_cell? w _ hx205_0)).trans hx205_0
          replace p205 := eq_true p205
          replace q205 := eq_true q205
          go_wp2_with (first | ((with_reducible refine gate_callee (f := 62) rfl ?_); refine goesL_ (some 49) rfl rfl Try.func62 (by kernel_rfl) rfl #[.slice (some ad204) l0.length c0, .int .i64 a1, .int .i64 (Go.bits .or .i64 a2 (rd l0 x12_1)), .int .i64 (wrap64 (x12_1 + 1)), .int .i64 (wrap64 (a4 - 1))] rfl zM ?_; (with_reducible refine (ih k1 (by have := HK1.out; omega) _ _ l0 a1 (Go.bits .or .i64 a2 (rd l0 x12_1)) (wrap64 (x12_1 + 1)) (wrap64 (a4 - 1)) t206 true _ ?side1 ?side2 A11.out).mono ?_); (case side1 => exact zC (Kd.C_below HR0.out HB.out)); (case side2 => exact HC0.out); rintro e w14 ⟨v208, rfl, ho0, hb⟩; refine ⟨_, rfl, ?_⟩; have HO209 := zA (Kd.R_lower ho0 (below_size (zB HB))); replace HB := zA (below_step (zB HB) hb); (try clear hb); (try clear hb2); (try clear hk); (try clear hi); (try clear ho0)) | ((with_reducible refine gate_dst (N := 54) rfl ?_); refine Kd.R_lit (Kd.int .i64) _ 3 ?hg (N := 54) ?hd (xs := ([x12_1] : List Int)) (inner := [.int .i64 x12_1]) (ok := fun _ => True) (okp := fun _ => True) ?hr ?hp (fun _ hk => hk) trivial (Below.refl _ _) (Nat.le_refl _) (by simp) ?_; (case hd => rfl); (case hg => rfl); (case hr => exact zH); (case hp => exact (Reps.one (show Kd.M (Kd.int .i64) _ _ _ x12_1 [.int .i64 x12_1] from rfl) (Reps.none _ _))); intro v211 w15 ho16 hb hg_ hnew_; clear hg_ hnew_; (first | rw [← Ny210.out] at ho16 | (simp only [Int.reduceToNat] at ho16; rw [← Ny210.out] at ho16)); have HO212 := zA (Kd.R_lower (Kd.R_new' ho16 (Kd.R_lt (zR HO209))) (below_size (zB HB))); replace HO209 := zA (Kd.R_elder' (zR HO209) (Kd.R_base ho16) hb); replace HB := zA (below_step (zB HB) hb); clear hb ho16; obtain ⟨Ao18, co18, eo18⟩ := Kd.R_slice HO209.out; subst eo18) | ((with_reducible refine gate_builtin (b := .append) (xs := #[.tmp 54, .tmp 55]) rfl ?_); at_builtin; refine Kd.R_append_rows (Kd.int .i64) (w0 := w) w.heap.size rfl (.tmp 54) (.tmp 55) 74 3 (.int .i64 0) 8 rfl Try.underlying74 info3 rfl (by decide) (by omega) v211 y210 t206 _ _ _ (fun k_ => some k_ ≠ (.slice Ao18 t206.length co18 : Value).ownBlock) (fun _ => False) rfl rfl ?aO ?aR (fun _ _ h => h) (fun _ h => h.elim) ?aF ?aB ?aS ?aL ?_; (case aR => exact zC (Kd.R_reads' HO209.out).2.2); (case aB => exact (zB HB)); (case aF => exact (fun k_ hk => Kd.fresh' (Kd.R_lt (zR HO209)) k_ hk)); (case aO => exact (by (with_reducible repeat (first | apply Kd.R_alloc | apply Kd.R_drewN | apply Kd.R_drew)); exact Kd.R_mono HO212.out (fun _ hk => hk.2))); (case aS => exact (below_size (zB HB))); (case aL => have := LMc13.out; omega); intro v214 w17 ho hb hg hat; rw [← Ny213.out] at ho; have n0_ := zA (Kd.R_after (ok := (fun _ => True)) (zR HO209) hg hat); have n1_ := zA (hb); have n2_ := zA (ho); clear HO209; clear HB; clear HO212; have HO209 := n0_; have HB := n1_; have HO215 := n2_; clear n0_ n1_ n2_; clear ho hb hg hat))
          go_ret2
          exact ⟨_, zE, by (with_reducible repeat (first | apply Kd.R_alloc | apply Kd.R_drewN | apply Kd.R_drew)); exact Kd.R_mono HO215.out (fun _ hk => trivial), zB HB⟩
         ·rw [if_neg c13] at H
          exact absurd H (by simp)
        ·replace c12 := Bool.eq_false_iff.mpr c12
         subst c12
         have H1 : (impl_choose.l0 k1 l0 a1 a2 a4 (wrap64 (x12_1 + 1))) = some (r1, r2) := by rw [if_neg (show ¬ (false = true) by decide)] at H; exact H
         clear H
         have H := H1
         clear H1
         have H' := zA H
         clear H
         have p204 : 0 ≤ (x12_1 : Int) := of_decide_eq_true (by first | (with_reducible assumption) | assumption)
         have q204 : x12_1 < (l0.length : Int) := of_decide_eq_true (by first | (with_reducible assumption) | assumption)
         obtain ⟨ad204, e204, hx204_0⟩ := Kd.at_int HR0.out x12_1 p204 q204
         cases e204
         replace hx204_0 := (HB.out.cell (World.block_lt_of_cell? w _ hx204_0)).trans hx204_0
         replace p204 := eq_true p204
         replace q204 := eq_true q204
         have p205 : 0 ≤ (x12_1 : Int) := of_decide_eq_true (by first | (with_reducible assumption) | assumption)
         have q205 : x12_1 < (l0.length : Int) := of_decide_eq_true (by first | (with_reducible assumption) | assumption)
         obtain ⟨ad205, e205, hx205_0⟩ := Kd.at_int HR0.out x12_1 p205 q205
         obtain rfl : ad204 = ad205 := (by injection e205)
         replace hx205_0 := (HB.out.cell (World.block_lt_of_cell? w _ hx205_0)).trans hx205_0
         replace p205 := eq_true p205
         replace q205 := eq_true q205
         go_wp2_with (first | ((with_reducible refine gate_callee (f := 62) rfl ?_); refine goesL_ (some 49) rfl rfl Try.func62 (by kernel_rfl) rfl #[.slice (some ad204) l0.length c0, .int .i64 a1, .int .i64 (Go.bits .or .i64 a2 (rd l0 x12_1)), .int .i64 (wrap64 (x12_1 + 1)), .int .i64 (wrap64 (a4 - 1))] rfl zM ?_; (with_reducible refine (ih k1 (by have := HK1.out; omega) _ _ l0 a1 (Go.bits .or .i64 a2 (rd l0 x12_1)) (wrap64 (x12_1 + 1)) (wrap64 (a4 - 1)) t206 false _ ?side1 ?side2 A11.out).mono ?_); (case side1 => exact zC (Kd.C_below HR0.out HB.out)); (case side2 => exact HC0.out); rintro e w19 ⟨v208, rfl, ho0, hb⟩; refine ⟨_, rfl, ?_⟩; have HO209 := zA (Kd.R_lower ho0 (below_size (zB HB))); replace HB := zA (below_step (zB HB) hb); (try clear hb); (try clear hb2); (try clear hk); (try clear hi); (try clear ho0)))
         go_roundg k1
         case measure => have := HK1.out; omega
         case rel => exact ⟨(wrap64 (x12_1 + 1)), zS, H', ⟨by have := HK1.out; omega⟩, ⟨zB HB⟩⟩
      ·rw [if_neg c9] at H
       exact absurd H (by simp)
     ·rw [if_neg c8] at H
      exact absurd H (by simp)
    ·rw [if_neg c7] at H
     have c7b0 : decide (x12_1 ≤ (wrap64 ((l0.length : Int) - a4))) = false := decide_eq_false c7
     clear c7
     simp only [Option.some.injEq, Prod.mk.injEq] at H
     obtain ⟨rfl, rfl⟩ := H
     go_wp2
     go_ret2
     exact ⟨_, zE, by first | exact Kd.R_nil _ _ _ _ _ | exact Kd.N_nil _ _ _ _ _ | exact Kd.V_nil _ _ _ _ _ | exact Kd.Q_nil _ _ _ _ _ | exact Kd.S_nil _ _ _ _ _, zB HB⟩

/-! ### spec_l6Cover: function 38 -/
mutual
def spec_l6Cover.l0 : Nat → List (S33) → Int → Int → Int → Int → Int → Option ((List (S33)) × Bool)
 | 0, _, _, _, _, _, _ => none
 | k + 1, x1, x3, x4, x12, x263000, x263001 => if x12 < (x1.length : Int) then (if 0 ≤ x12 then ((spec_l6Word.f k x263000 ((rd_T33 x1 x12).f0) ((rd_T33 x1 x12).f1)).bind fun t273 => (if (Go.bits .and .i64 t273 x3) = 0 then (spec_l6Cover.l0 k x1 x3 x4 (wrap64 (x12 + 1)) x263000 x263001) else ((spec_l6Cover.f k x263000 x263001 x1 (wrap64 (x12 + 1)) (wrap64 (x3 - (Go.bits .and .i64 x3 t273))) (wrap64 (x4 - 1))).bind fun bt274 => (if bt274.2 = true then ((some (([(⟨(rd_T33 x1 x12).f0, (rd_T33 x1 x12).f1⟩ : S33)] : List (S33)) : List (S33))).bind fun y279 => (if y279.length + bt274.1.length < 8796093022208 then (some ((y279 ++ bt274.1), true)) else (none))) else (spec_l6Cover.l0 k x1 x3 x4 (wrap64 (x12 + 1)) x263000 x263001))))) else (none)) else (some ((([] : List (S33))), false))
def spec_l6Cover.f : Nat → Int → Int → List (S33) → Int → Int → Int → Option ((List (S33)) × Bool)
 | 0, _, _, _, _, _, _ => none
 | k + 1, a0_0, a0_1, l1, a2, a3, a4 => if a3 = 0 then (some ((([] : List (S33))), true)) else (if a4 = 0 then (some ((([] : List (S33))), false)) else (spec_l6Cover.l0 k l1 a3 a4 a2 a0_0 a0_1))
end
theorem spec_l6Cover.mono_l : ∀ k, (∀ y0 y1 y2 y3 y4 y5, LeO (spec_l6Cover.f k y0 y1 y2 y3 y4 y5) (spec_l6Cover.f (k + 1) y0 y1 y2 y3 y4 y5)) ∧ (∀ y0 y1 y2 y3 y4 y5, LeO (spec_l6Cover.l0 k y0 y1 y2 y3 y4 y5) (spec_l6Cover.l0 (k + 1) y0 y1 y2 y3 y4 y5))
 | 0 => ⟨fun _ _ _ _ _ _ r h => by simp [spec_l6Cover.f] at h, fun _ _ _ _ _ _ r h => by simp [spec_l6Cover.l0] at h⟩
 | k + 1 => by
  obtain ⟨ih0, ih1⟩ := spec_l6Cover.mono_l k
  refine ⟨?_, ?_⟩
  ·intro y0 y1 y2 y3 y4 y5
   unfold spec_l6Cover.f
   repeat' first
   | (with_reducible exact ih0 _ _ _ _ _ _)
   | (with_reducible exact ih1 _ _ _ _ _ _)
   | (with_reducible exact spec_l6Word.mono _ _ _ _)
   | (with_reducible exact LeO.refl _)
   | (with_reducible exact LeO.none _)
   | (with_reducible refine LeO.ite ?_ ?_)
   | (with_reducible refine LeO.bind ?_ (fun _ => ?_))
   | exact ih0 _ _ _ _ _ _
   | exact ih1 _ _ _ _ _ _
   | exact spec_l6Word.mono _ _ _ _
   | exact LeO.none _
   | refine LeO.ite ?_ ?_
   | refine LeO.bind ?_ (fun _ => ?_)
  ·intro y0 y1 y2 y3 y4 y5
   unfold spec_l6Cover.l0
   repeat' first
   | (with_reducible exact ih0 _ _ _ _ _ _)
   | (with_reducible exact ih1 _ _ _ _ _ _)
   | (with_reducible exact spec_l6Word.mono _ _ _ _)
   | (with_reducible exact LeO.refl _)
   | (with_reducible exact LeO.none _)
   | (with_reducible refine LeO.ite ?_ ?_)
   | (with_reducible refine LeO.bind ?_ (fun _ => ?_))
   | exact ih0 _ _ _ _ _ _
   | exact ih1 _ _ _ _ _ _
   | exact spec_l6Word.mono _ _ _ _
   | exact LeO.none _
   | refine LeO.ite ?_ ?_
   | refine LeO.bind ?_ (fun _ => ?_)
theorem spec_l6Cover.mono : ∀ a0 a1 a2 a3 a4 a5 k, LeO (spec_l6Cover.f k a0 a1 a2 a3 a4 a5) (spec_l6Cover.f (k + 1) a0 a1 a2 a3 a4 a5) := by
 intro a0 a1 a2 a3 a4 a5 k
 obtain ⟨ih0, ih1⟩ := spec_l6Cover.mono_l k
 exact ih0 a0 a1 a2 a3 a4 a5
def spec_l6Cover.T8 : Bool × List (List Nat × List Nat) := (true, [([], []), ([0], [0]), ([], []), ([], []), ([2, 3], [2, 3]), ([4], [4]), ([1, 5], [1, 5]), ([6, 6, 0, 1, 2, 3, 4, 5, 6], [6])])
def spec_l6Cover.B8 : List Nat := [0, 1, 0, 0, 12, 28, 63, 127]
theorem spec_l6Cover.tab8 : rtab .any (opsOf Try.f38 8) = spec_l6Cover.T8 := by kernel_rfl
theorem spec_l6Cover.bits8 : waitsOk spec_l6Cover.T8.2 spec_l6Cover.B8 = true := by kernel_rfl
set_option maxHeartbeats 8000000 in
set_option maxRecDepth 100000 in
theorem spec_l6Cover.calls (k : Nat) : ∀ (a0_0 : Int) (a0_1 : Int) (A1 : Option Addr) (c1 : Nat) (l1 : List (S33)) (a2 : Int) (a3 : Int) (a4 : Int) (r1 : List (S33)) (r2 : Bool) (w : World) (hr1 : Kd.C k33 w A1 l1.length l1) (hc1 : l1.length ≤ c1) (h : spec_l6Cover.f k a0_0 a0_1 l1 a2 a3 a4 = some (r1, r2)),
  Calls Try.prog 38 #[.agg #[.int .i64 a0_0, .int .i64 a0_1], .slice A1 l1.length c1, .int .i64 a2, .int .i64 a3, .int .i64 a4] w fun e w' => ∃ v0_ : Value, e = .returned (.tuple #[v0_, .bool r2]) ∧ Kd.R k33 33 w' w.heap.size (fun _ => True) v0_ r1 ∧ Below w.heap.size w w' := by
 induction k using Nat.strongRecOn with
 | _ k ih =>
 intro a0_0 a0_1 A1 c1 l1 a2 a3 a4 r1 r2 w hr1 hc1 h
 cases k with
 | zero => exact absurd h (by simp [spec_l6Cover.f])
 | succ k =>
 simp only [spec_l6Cover.f] at h
 have hu25 := Try.underlying25
 have hu33 := Try.underlying33
 have HR1 := zA hr1
 have HC1 := zA hc1
 clear hr1 hc1
 have HB := zA (Below.refl w.heap.size w)
 have H := h
 unfold spec_l6Cover.f at H
 clear h
 by_cases c6 : a3 = 0
 ·rw [if_pos c6] at H
  have c6b0 : (a3 == 0) = true := beq_iff_eq.mpr c6
  have c6b1 : (a3 != 0) = false := bne_eq_false_iff_eq.mpr c6
  clear c6
  obtain ⟨y263, hy263⟩ : ∃ y_ : List (S33), y_ = (([] : List (S33))) := ⟨_, rfl⟩
  replace H : (some (y263, true)) = some (r1, r2) := by first | (rw [hy263]; with_reducible exact H) | (have H2_ := (Option.bind_some _ _).symm.trans H; rw [hy263]; with_reducible exact H2_) | (have H2_ := (Option.bind_some _ _).symm.trans H; with_reducible exact H2_) | with_reducible exact H | (rw [hy263]; exact H) | exact H
  have Ny263 := zA hy263
  clear hy263
  simp only [Option.some.injEq, Prod.mk.injEq] at H
  obtain ⟨rfl, rfl⟩ := H
  go_enter Try.func38, Try.ntmps38
  go_wp2_with (first | ((with_reducible refine gate_dst (N := 5) rfl ?_); refine box_event ?hg (N := 5) ?hd (cs := #[.int .i64 a0_0, .int .i64 a0_1]) (t := 25) ?hr ?_; (case hd => rfl); (case hg => rfl); (case hr => exact zH); intro gb262 hg w7 hbox hb; have BK262 := zA (hbox); have GW262 := zg HB hg; have GE262 := zg HB hg; replace HB := zA (below_step (zB HB) hb); clear hb hbox hg) | ((with_reducible refine gate_dst (N := 18) rfl ?_); refine Kd.R_lit k33 _ 33 ?hg (N := 18) ?hd (xs := ([] : List (S33))) (inner := []) (ok := fun _ => True) (okp := fun _ => True) ?hr ?hp (fun _ hk => hk) trivial (Below.refl _ _) (Nat.le_refl _) (by simp) ?_; (case hd => rfl); (case hg => rfl); (case hr => exact zH); (case hp => exact (Reps.none _ _)); intro v264 w8 ho9 hb hg_ hnew_; clear hg_ hnew_; (first | rw [← Ny263.out] at ho9 | (simp only [Int.reduceToNat] at ho9; rw [← Ny263.out] at ho9)); have HO265 := zA (Kd.R_lower ho9 (below_size (zB1 HB GE262))); replace BK262 := zb BK262 hb; replace HB := zA (below_step (zB1 HB GE262) hb); clear hb ho9))
  go_ret2
  exact ⟨_, zE, by (with_reducible repeat (first | apply Kd.R_alloc | apply Kd.R_drewN | apply Kd.R_drew)); exact HO265.out, zB1 HB GE262⟩
 ·rw [if_neg c6] at H
  have c6b0 : (a3 == 0) = false := beq_eq_false_iff_ne.mpr c6
  have c6b1 : (a3 != 0) = true := bne_iff_ne.mpr c6
  by_cases c10 : a4 = 0
  ·rw [if_pos c10] at H
   have c10b0 : (a4 == 0) = true := beq_iff_eq.mpr c10
   have c10b1 : (a4 != 0) = false := bne_eq_false_iff_eq.mpr c10
   clear c10
   obtain ⟨y266, hy266⟩ : ∃ y_ : List (S33), y_ = (([] : List (S33))) := ⟨_, rfl⟩
   replace H : (some (y266, false)) = some (r1, r2) := by first | (rw [hy266]; with_reducible exact H) | (have H2_ := (Option.bind_some _ _).symm.trans H; rw [hy266]; with_reducible exact H2_) | (have H2_ := (Option.bind_some _ _).symm.trans H; with_reducible exact H2_) | with_reducible exact H | (rw [hy266]; exact H) | exact H
   have Ny266 := zA hy266
   clear hy266
   simp only [Option.some.injEq, Prod.mk.injEq] at H
   obtain ⟨rfl, rfl⟩ := H
   go_enter Try.func38, Try.ntmps38
   go_wp2_with (first | ((with_reducible refine gate_dst (N := 5) rfl ?_); refine box_event ?hg (N := 5) ?hd (cs := #[.int .i64 a0_0, .int .i64 a0_1]) (t := 25) ?hr ?_; (case hd => rfl); (case hg => rfl); (case hr => exact zH); intro gb262 hg w11 hbox hb; have BK262 := zA (hbox); have GW262 := zg HB hg; have GE262 := zg HB hg; replace HB := zA (below_step (zB HB) hb); clear hb hbox hg) | ((with_reducible refine gate_dst (N := 21) rfl ?_); refine Kd.R_lit k33 _ 33 ?hg (N := 21) ?hd (xs := ([] : List (S33))) (inner := []) (ok := fun _ => True) (okp := fun _ => True) ?hr ?hp (fun _ hk => hk) trivial (Below.refl _ _) (Nat.le_refl _) (by simp) ?_; (case hd => rfl); (case hg => rfl); (case hr => exact zH); (case hp => exact (Reps.none _ _)); intro v267 w12 ho13 hb hg_ hnew_; clear hg_ hnew_; (first | rw [← Ny266.out] at ho13 | (simp only [Int.reduceToNat] at ho13; rw [← Ny266.out] at ho13)); have HO268 := zA (Kd.R_lower ho13 (below_size (zB1 HB GE262))); replace BK262 := zb BK262 hb; replace HB := zA (below_step (zB1 HB GE262) hb); clear hb ho13))
   go_ret2
   exact ⟨_, zE, by (with_reducible repeat (first | apply Kd.R_alloc | apply Kd.R_drewN | apply Kd.R_drew)); exact HO268.out, zB1 HB GE262⟩
  ·rw [if_neg c10] at H
   have c10b0 : (a4 == 0) = false := beq_eq_false_iff_ne.mpr c10
   have c10b1 : (a4 != 0) = true := bne_iff_ne.mpr c10
   have H' := zA H
   clear H
   go_enter Try.func38, Try.ntmps38
   go_wp2_with (first | ((with_reducible refine gate_dst (N := 5) rfl ?_); refine box_event ?hg (N := 5) ?hd (cs := #[.int .i64 a0_0, .int .i64 a0_1]) (t := 25) ?hr ?_; (case hd => rfl); (case hg => rfl); (case hr => exact zH); intro gb262 hg w14 hbox hb; have BK262 := zA (hbox); have GW262 := zg HB hg; have GE262 := zg HB hg; replace HB := zA (below_step (zB HB) hb); clear hb hbox hg))
   go_loopg [12] k (fun kq v12 w' => ∃ (x12_1 : Int), v12 = .int .i64 x12_1 ∧ Aside0 (spec_l6Cover.l0 kq l1 a3 a4 x12_1 a0_0 a0_1 = some (r1, r2)) ∧ Aside0 (kq ≤ k) ∧ Aside0 (w'.heap[gb262]? = some (.cells #[.int .i64 a0_0, .int .i64 a0_1] 25 (0, 0))) ∧ Aside0 (Below w.heap.size w w'))
   case atStart => exact ⟨(a2), zS, H', ⟨Nat.le_refl _⟩, ⟨zD BK262⟩, ⟨zB1 HB GE262⟩⟩
   case round =>
    clear H'
    try clear c1
    try clear c6
    try clear c6b0
    try clear c6b1
    try clear c10
    try clear c10b0
    try clear c10b1
    obtain ⟨x12_1, rfl, HA, HK1, BK262, HB⟩ := hrel
    cases gk with
    | zero => exact absurd HA.out (by simp [spec_l6Cover.l0])
    | succ k1 =>
     have H := HA.out
     clear HA
     simp only [spec_l6Cover.l0] at H
     by_cases c15 : x12_1 < (l1.length : Int)
     ·rw [if_pos c15] at H
      have c15b0 : decide (x12_1 < (l1.length : Int)) = true := decide_eq_true c15
      clear c15
      by_cases c16 : 0 ≤ x12_1
      ·rw [if_pos c16] at H
       have c16b0 : decide (0 ≤ x12_1) = true := decide_eq_true c16
       clear c16
       replace H := Option.bind_eq_some_iff.mp H
       obtain ⟨t273, A170, H⟩ := H
       replace H : (if (Go.bits .and .i64 t273 a3) = 0 then (spec_l6Cover.l0 k1 l1 a3 a4 (wrap64 (x12_1 + 1)) a0_0 a0_1) else ((spec_l6Cover.f k1 a0_0 a0_1 l1 (wrap64 (x12_1 + 1)) (wrap64 (a3 - (Go.bits .and .i64 a3 t273))) (wrap64 (a4 - 1))).bind fun bt274 => (if bt274.2 = true then ((some (([(⟨(rd_T33 l1 x12_1).f0, (rd_T33 l1 x12_1).f1⟩ : S33)] : List (S33)) : List (S33))).bind fun y279 => (if y279.length + bt274.1.length < 8796093022208 then (some ((y279 ++ bt274.1), true)) else (none))) else (spec_l6Cover.l0 k1 l1 a3 a4 (wrap64 (x12_1 + 1)) a0_0 a0_1)))) = some (r1, r2) := H
       have A17 := zA A170
       clear A170
       by_cases c18 : (Go.bits .and .i64 t273 a3) = 0
       ·rw [if_pos c18] at H
        have c18b0 : ((Go.bits .and .i64 t273 a3) == 0) = true := beq_iff_eq.mpr c18
        have c18b1 : ((Go.bits .and .i64 t273 a3) != 0) = false := bne_eq_false_iff_eq.mpr c18
        clear c18
        have H' := zA H
        clear H
        try go_wp2
        have n0_ := zA (blk_drew BK262.out)
        have n1_ := zA (below_drew1 HB.out)
        clear BK262
        clear HB
        have BK262 := n0_
        have HB := n1_
        clear n0_ n1_
        have p272 : 0 ≤ (x12_1 : Int) := of_decide_eq_true (by first | (with_reducible assumption) | assumption)
        have q272 : x12_1 < (l1.length : Int) := of_decide_eq_true (by first | (with_reducible assumption) | assumption)
        obtain ⟨ad272, e272, hx272_0, hx272_1⟩ := at_T33 HR1.out x12_1 p272 q272
        have hw272_1 := hx272_1
        have hw272_0 := hx272_0
        cases e272
        replace hx272_0 := (HB.out.cell (World.block_lt_of_cell? w _ hx272_0)).trans hx272_0
        replace hx272_1 := (HB.out.cell (World.block_lt_of_cell? w _ hx272_1)).trans hx272_1
        replace p272 := eq_true p272
        replace q272 := eq_true q272
        refine start_ (n := 8) (S := fun w' => w'.cell? ⟨gb262, 0, none⟩ = some (.int .i64 a0_0) ∧ w'.cell? ⟨gb262, 1, none⟩ = some (.int .i64 a0_1) ∧ w'.cell? (ad272.add ((x12_1).toNat * 2)) = some (.int .i64 ((rd_T33 l1 x12_1).f0)) ∧ w'.cell? ⟨(ad272.add ((x12_1).toNat * 2)).block, (ad272.add ((x12_1).toNat * 2)).off + 1, none⟩ = some (.int .i64 ((rd_T33 l1 x12_1).f1))) (ds := []) #[false, false, false, false, false, false, false, false] (by kernel_rfl) rfl rfl ⟨(blk_cell BK262.out 0).trans rfl, (blk_cell BK262.out 1).trans rfl, ((HB.out.cell (World.block_lt_of_cell? w _ hw272_0)).trans hw272_0), ((HB.out.cell (World.block_lt_of_cell? w _ hw272_1)).trans hw272_1)⟩ (fun hHeld => ?_); refine with_tabW spec_l6Cover.tab8 spec_l6Cover.bits8 (fun HT_ HW_ => ?_)
        generalize wr.drew = w19 at BK262 HB hx272_0 hx272_1 hHeld ⊢
        refine pure_ (i := 0) (N := some 29) (v := ?_) (a' := ?_) #[true, false, false, false, false, false, false, false] rfl rfl (any_of HT_.out (by kernel_rfl)) (fun _ _ _ h => h) (Or.inl ⟨by rfl, ?_⟩) ?_ ?_
        rotate_left
        ·intro w'
         go_simp
         with_reducible rfl
        rotate_left
        ·exact zU
        refine pure_ (i := 2) (N := some 31) (v := ?_) (a' := ?_) #[true, false, true, false, false, false, false, false] rfl rfl (any_of HT_.out (by kernel_rfl)) (fun _ _ _ h => h) (Or.inl ⟨by rfl, ?_⟩) ?_ ?_
        rotate_left
        ·intro w'
         go_simp
         with_reducible rfl
        rotate_left
        ·exact zU
        refine pure_ (i := 3) (N := some 32) (v := ?_) (a' := ?_) #[true, false, true, true, false, false, false, false] rfl rfl (any_of HT_.out (by kernel_rfl)) (fun _ _ _ h => h) (Or.inl ⟨by rfl, ?_⟩) ?_ ?_
        rotate_left
        ·intro w'
         go_simp
         with_reducible rfl
        rotate_left
        ·exact zU
        refine pure_ (i := 4) (N := some 33) (v := ?_) (a' := ?_) #[true, false, true, true, true, false, false, false] rfl rfl (any_of HT_.out (by kernel_rfl)) (fun _ _ _ h => h) (Or.inl ⟨by rfl, ?_⟩) ?_ ?_
        rotate_left
        ·intro w'
         go_simp
         with_reducible rfl
        rotate_left
        ·exact zU
        refine take_ (i := 1) (N := some 30) (v := ?_) (a' := ?_) #[true, true, true, true, true, false, false, false] rfl rfl (take_ofW HT_.out HW_.out (by kernel_rfl)) (fun _ _ _ h => h) (Or.inl ⟨by rfl, ?_⟩) hHeld ?_ ?_
        rotate_left
        ·rintro w' ⟨s0, s1, s2, s3⟩
         go_simp
         with_reducible rfl
        rotate_left
        ·exact zU
        refine take_ (i := 5) (N := some 34) (v := ?_) (a' := ?_) #[true, true, true, true, true, true, false, false] rfl rfl (take_ofW HT_.out HW_.out (by kernel_rfl)) (fun _ _ _ h => h) (Or.inl ⟨by rfl, ?_⟩) hHeld ?_ ?_
        rotate_left
        ·rintro w' ⟨s0, s1, s2, s3⟩
         go_simp
         with_reducible rfl
        rotate_left
        ·exact zU
        refine one_ (i := 6) (N := some 35) #[true, true, true, true, true, true, true, false] rfl rfl (one_of HT_.out (by kernel_rfl)) (by decide) (fun K hK => ?_)
        refine goes_ Try.func43 (by kernel_rfl) rfl #[.int .i64 a0_0, .agg #[.int .i64 ((rd_T33 l1 x12_1).f0), .int .i64 ((rd_T33 l1 x12_1).f1)]] (by rfl) rfl rfl zM ?_
        with_reducible refine (spec_l6Word.calls k1 a0_0 ((rd_T33 l1 x12_1).f0) ((rd_T33 l1 x12_1).f1) t273 _ A17.out).mono ?_
        rintro e w20 ⟨rfl, hb⟩
        refine ⟨_, rfl, ?_⟩
        have n0_ := zb BK262 hb
        have n1_ := zA (below_step (zB1 HB GE262) hb)
        clear BK262
        clear HB
        have BK262 := n0_
        have HB := n1_
        clear n0_ n1_
        (try clear hb)
        (try clear hb2)
        (try clear hk)
        (try clear hi)
        refine hK.out _ _ ⟨(blk_cell BK262.out 0).trans rfl, (blk_cell BK262.out 1).trans rfl, ((HB.out.cell (World.block_lt_of_cell? w _ hw272_0)).trans hw272_0), ((HB.out.cell (World.block_lt_of_cell? w _ hw272_1)).trans hw272_1)⟩ (fun hHeld => ?_)
        clear hK K
        refine norm_ (a' := ?_) ?_ ?_
        rotate_left
        ·show Act.put _ (some 35) _ = _
         simp only [Act.put, List.setIfInBounds_toArray, List.set_cons_zero, List.set_cons_succ, i64_w, i32_w]
         rfl
        refine pure_ (i := 7) (N := some 13) (v := ?_) (a' := ?_) #[true, true, true, true, true, true, true, true] rfl rfl (any_of HT_.out (by kernel_rfl)) (fun _ _ _ h => h) (Or.inl ⟨by rfl, ?_⟩) ?_ ?_
        rotate_left
        ·intro w'
         go_simp
         with_reducible rfl
        rotate_left
        ·exact zU
        refine done_ (done_of HT_.out (by kernel_rfl)) ?_
        try go_wp2
        go_roundg k1
        case measure => have := HK1.out; omega
        case rel => exact ⟨(wrap64 (x12_1 + 1)), zS, H', ⟨by have := HK1.out; omega⟩, ⟨zD BK262⟩, ⟨zB1 HB GE262⟩⟩
       ·rw [if_neg c18] at H
        have c18b0 : ((Go.bits .and .i64 t273 a3) == 0) = false := beq_eq_false_iff_ne.mpr c18
        have c18b1 : ((Go.bits .and .i64 t273 a3) != 0) = true := bne_iff_ne.mpr c18
        replace H := Option.bind_eq_some_iff.mp H
        obtain ⟨⟨t274, t277⟩, A210, H⟩ := H
        replace H : (if t277 = true then ((some (([(⟨(rd_T33 l1 x12_1).f0, (rd_T33 l1 x12_1).f1⟩ : S33)] : List (S33)) : List (S33))).bind fun y279 => (if y279.length + t274.length < 8796093022208 then (some ((y279 ++ t274), true)) else (none))) else (spec_l6Cover.l0 k1 l1 a3 a4 (wrap64 (x12_1 + 1)) a0_0 a0_1)) = some (r1, r2) := H
        have A21 := zA A210
        clear A210
        by_cases c22 : t277 = true
        ·subst c22
         have H1 : ((some (([(⟨(rd_T33 l1 x12_1).f0, (rd_T33 l1 x12_1).f1⟩ : S33)] : List (S33)) : List (S33))).bind fun y279 => (if y279.length + t274.length < 8796093022208 then (some ((y279 ++ t274), true)) else (none))) = some (r1, r2) := by rw [if_pos rfl] at H; exact H
         clear H
         have H := H1
         clear H1
         obtain ⟨y279, hy279⟩ : ∃ y_ : List (S33), y_ = (([(⟨(rd_T33 l1 x12_1).f0, (rd_T33 l1 x12_1).f1⟩ : S33)] : List (S33))) := ⟨_, rfl⟩
         replace H : (if y279.length + t274.length < 8796093022208 then (some ((y279 ++ t274), true)) else (none)) = some (r1, r2) := by first | (rw [hy279]; with_reducible exact H) | (have H2_ := (Option.bind_some _ _).symm.trans H; rw [hy279]; with_reducible exact H2_) | (have H2_ := (Option.bind_some _ _).symm.trans H; with_reducible exact H2_) | with_reducible exact H | (rw [hy279]; exact H) | exact H
         have Ny279 := zA hy279
         clear hy279
         by_cases c23 : y279.length + t274.length < 8796093022208
         ·rw [if_pos c23] at H
          have LMc23 := zA c23
          clear c23
          obtain ⟨y282, hy282⟩ : ∃ y_ : List (S33), y_ = (y279 ++ t274) := ⟨_, rfl⟩
          replace H : (some (y282, true)) = some (r1, r2) := by first | (rw [hy282]; with_reducible exact H) | (have H2_ := (Option.bind_some _ _).symm.trans H; rw [hy282]; with_reducible exact H2_) | (have H2_ := (Option.bind_some _ _).symm.trans H; with_reducible exact H2_) | with_reducible exact H | (rw [hy282]; exact H) | exact H
          have Ny282 := zA hy282
          clear hy282
          simp only [Option.some.injEq, Prod.mk.injEq] at H
          obtain ⟨rfl, rfl⟩ := H
          try go_wp2
          have n0_ := zA (blk_drew BK262.out)
          have n1_ := zA (below_drew1 HB.out)
          clear BK262
          clear HB
          have BK262 := n0_
          have HB := n1_
          clear n0_ n1_
          have p272 : 0 ≤ (x12_1 : Int) := of_decide_eq_true (by first | (with_reducible assumption) | assumption)
          have q272 : x12_1 < (l1.length : Int) := of_decide_eq_true (by first | (with_reducible assumption) | assumption)
          obtain ⟨ad272, e272, hx272_0, hx272_1⟩ := at_T33 HR1.out x12_1 p272 q272
          have hw272_1 := hx272_1
          have hw272_0 := hx272_0
          cases e272
          replace hx272_0 := (HB.out.cell (World.block_lt_of_cell? w _ hx272_0)).trans hx272_0
          replace hx272_1 := (HB.out.cell (World.block_lt_of_cell? w _ hx272_1)).trans hx272_1
          replace p272 := eq_true p272
          replace q272 := eq_true q272
          refine start_ (n := 8) (S := fun w' => w'.cell? ⟨gb262, 0, none⟩ = some (.int .i64 a0_0) ∧ w'.cell? ⟨gb262, 1, none⟩ = some (.int .i64 a0_1) ∧ w'.cell? (ad272.add ((x12_1).toNat * 2)) = some (.int .i64 ((rd_T33 l1 x12_1).f0)) ∧ w'.cell? ⟨(ad272.add ((x12_1).toNat * 2)).block, (ad272.add ((x12_1).toNat * 2)).off + 1, none⟩ = some (.int .i64 ((rd_T33 l1 x12_1).f1))) (ds := []) #[false, false, false, false, false, false, false, false] (by kernel_rfl) rfl rfl ⟨(blk_cell BK262.out 0).trans rfl, (blk_cell BK262.out 1).trans rfl, ((HB.out.cell (World.block_lt_of_cell? w _ hw272_0)).trans hw272_0), ((HB.out.cell (World.block_lt_of_cell? w _ hw272_1)).trans hw272_1)⟩ (fun hHeld => ?_); refine with_tabW spec_l6Cover.tab8 spec_l6Cover.bits8 (fun HT_ HW_ => ?_)
          generalize wr.drew = w24 at BK262 HB hx272_0 hx272_1 hHeld ⊢
          refine pure_ (i := 0) (N := some 29) (v := ?_) (a' := ?_) #[true, false, false, false, false, false, false, false] rfl rfl (any_of HT_.out (by kernel_rfl)) (fun _ _ _ h => h) (Or.inl ⟨by rfl, ?_⟩) ?_ ?_
          rotate_left
          ·intro w'
           go_simp
           with_reducible rfl
          rotate_left
          ·exact zU
          refine pure_ (i := 2) (N := some 31) (v := ?_) (a' := ?_) #[true, false, true, false, false, false, false, false] rfl rfl (any_of HT_.out (by kernel_rfl)) (fun _ _ _ h => h) (Or.inl ⟨by rfl, ?_⟩) ?_ ?_
          rotate_left
          ·intro w'
           go_simp
           with_reducible rfl
          rotate_left
          ·exact zU
          refine pure_ (i := 3) (N := some 32) (v := ?_) (a' := ?_) #[true, false, true, true, false, false, false, false] rfl rfl (any_of HT_.out (by kernel_rfl)) (fun _ _ _ h => h) (Or.inl ⟨by rfl, ?_⟩) ?_ ?_
          rotate_left
          ·intro w'
           go_simp
           with_reducible rfl
          rotate_left
          ·exact zU
          refine pure_ (i := 4) (N := some 33) (v := ?_) (a' := ?_) #[true, false, true, true, true, false, false, false] rfl rfl (any_of HT_.out (by kernel_rfl)) (fun _ _ _ h => h) (Or.inl ⟨by rfl, ?_⟩) ?_ ?_
          rotate_left
          ·intro w'
           go_simp
           with_reducible rfl
          rotate_left
          ·exact zU
          refine take_ (i := 1) (N := some 30) (v := ?_) (a' := ?_) #[true, true, true, true, true, false, false, false] rfl rfl (take_ofW HT_.out HW_.out (by kernel_rfl)) (fun _ _ _ h => h) (Or.inl ⟨by rfl, ?_⟩) hHeld ?_ ?_
          rotate_left
          ·rintro w' ⟨s0, s1, s2, s3⟩
           go_simp
           with_reducible rfl
          rotate_left
          ·exact zU
          refine take_ (i := 5) (N := some 34) (v := ?_) (a' := ?_) #[true, true, true, true, true, true, false, false] rfl rfl (take_ofW HT_.out HW_.out (by kernel_rfl)) (fun _ _ _ h => h) (Or.inl ⟨by rfl, ?_⟩) hHeld ?_ ?_
          rotate_left
          ·rintro w' ⟨s0, s1, s2, s3⟩
           go_simp
           with_reducible rfl
          rotate_left
          ·exact zU
          refine one_ (i := 6) (N := some 35) #[true, true, true, true, true, true, true, false] rfl rfl (one_of HT_.out (by kernel_rfl)) (by decide) (fun K hK => ?_)
          refine goes_ Try.func43 (by kernel_rfl) rfl #[.int .i64 a0_0, .agg #[.int .i64 ((rd_T33 l1 x12_1).f0), .int .i64 ((rd_T33 l1 x12_1).f1)]] (by rfl) rfl rfl zM ?_
          with_reducible refine (spec_l6Word.calls k1 a0_0 ((rd_T33 l1 x12_1).f0) ((rd_T33 l1 x12_1).f1) t273 _ A17.out).mono ?_
          rintro e w25 ⟨rfl, hb⟩
          refine ⟨_, rfl, ?_⟩
          have n0_ := zb BK262 hb
          have n1_ := zA (below_step (zB1 HB GE262) hb)
          clear BK262
          clear HB
          have BK262 := n0_
          have HB := n1_
          clear n0_ n1_
          (try clear hb)
          (try clear hb2)
          (try clear hk)
          (try clear hi)
          refine hK.out _ _ ⟨(blk_cell BK262.out 0).trans rfl, (blk_cell BK262.out 1).trans rfl, ((HB.out.cell (World.block_lt_of_cell? w _ hw272_0)).trans hw272_0), ((HB.out.cell (World.block_lt_of_cell? w _ hw272_1)).trans hw272_1)⟩ (fun hHeld => ?_)
          clear hK K
          refine norm_ (a' := ?_) ?_ ?_
          rotate_left
          ·show Act.put _ (some 35) _ = _
           simp only [Act.put, List.setIfInBounds_toArray, List.set_cons_zero, List.set_cons_succ, i64_w, i32_w]
           rfl
          refine pure_ (i := 7) (N := some 13) (v := ?_) (a' := ?_) #[true, true, true, true, true, true, true, true] rfl rfl (any_of HT_.out (by kernel_rfl)) (fun _ _ _ h => h) (Or.inl ⟨by rfl, ?_⟩) ?_ ?_
          rotate_left
          ·intro w'
           go_simp
           with_reducible rfl
          rotate_left
          ·exact zU
          refine done_ (done_of HT_.out (by kernel_rfl)) ?_
          have hcz26_0 := zc0 BK262
          have hcz26_1 := zc1 BK262
          have hfz26_0 := blk_frozen BK262.out 0
          have hfz26_1 := blk_frozen BK262.out 1
          try go_wp2_with (first | ((with_reducible refine gate_callee (f := 38) rfl ?_); refine goesL_ (some 52) rfl rfl Try.func38 (by kernel_rfl) rfl #[.agg #[.int .i64 a0_0, .int .i64 a0_1], .slice (some ad272) l1.length c1, .int .i64 (wrap64 (x12_1 + 1)), .int .i64 (wrap64 (a3 - (Go.bits .and .i64 a3 t273))), .int .i64 (wrap64 (a4 - 1))] rfl zM ?_; (with_reducible refine (ih k1 (by have := HK1.out; omega) a0_0 a0_1 _ _ l1 (wrap64 (x12_1 + 1)) (wrap64 (a3 - (Go.bits .and .i64 a3 t273))) (wrap64 (a4 - 1)) t274 true _ ?side1 ?side2 A21.out).mono ?_); (case side1 => exact zC (Kd.C_below HR1.out HB.out)); (case side2 => exact HC1.out); rintro e w27 ⟨v275, rfl, ho0, hb⟩; refine ⟨_, rfl, ?_⟩; have HO276 := zA (Kd.R_lower ho0 (below_size (zB1 HB GE262))); replace BK262 := zb BK262 hb; replace HB := zA (below_step (zB1 HB GE262) hb); (try clear hb); (try clear hb2); (try clear hk); (try clear hi); (try clear ho0); have p278 : 0 ≤ (x12_1 : Int) := of_decide_eq_true (by first | (with_reducible assumption) | assumption); have q278 : x12_1 < (l1.length : Int) := of_decide_eq_true (by first | (with_reducible assumption) | assumption); obtain ⟨ad278, e278, hx278_0, hx278_1⟩ := at_T33 HR1.out x12_1 p278 q278; obtain rfl : ad272 = ad278 := (by injection e278); replace hx278_0 := (HB.out.cell (World.block_lt_of_cell? w _ hx278_0)).trans hx278_0; replace hx278_1 := (HB.out.cell (World.block_lt_of_cell? w _ hx278_1)).trans hx278_1; replace p278 := eq_true p278; replace q278 := eq_true q278) | ((with_reducible refine gate_dst (N := 60) rfl ?_); refine Kd.R_lit k33 _ 33 ?hg (N := 60) ?hd (xs := ([(⟨(rd_T33 l1 x12_1).f0, (rd_T33 l1 x12_1).f1⟩ : S33)] : List (S33))) (inner := [.int .i64 ((rd_T33 l1 x12_1).f0), .int .i64 ((rd_T33 l1 x12_1).f1)]) (ok := fun _ => True) (okp := fun _ => True) ?hr ?hp (fun _ hk => hk) trivial (Below.refl _ _) (Nat.le_refl _) (by simp) ?_; (case hd => rfl); (case hg => rfl); (case hr => exact zH); (case hp => exact (Reps.c2 (show Kd.M k33 _ _ _ (⟨(rd_T33 l1 x12_1).f0, (rd_T33 l1 x12_1).f1⟩ : S33) [.int .i64 ((rd_T33 l1 x12_1).f0), .int .i64 ((rd_T33 l1 x12_1).f1)] from (k33_mkM _ _ _ (⟨(rd_T33 l1 x12_1).f0, (rd_T33 l1 x12_1).f1⟩ : S33) )) (Reps.none _ _))); intro v280 w28 ho29 hb hg_ hnew_; clear hg_ hnew_; (first | rw [← Ny279.out] at ho29 | (simp only [Int.reduceToNat] at ho29; rw [← Ny279.out] at ho29)); have HO281 := zA (Kd.R_lower (Kd.R_new' ho29 (Kd.R_lt (zR HO276))) (below_size (zB1 HB GE262))); replace HO276 := zA (Kd.R_elder' (zR HO276) (Kd.R_base ho29) hb); replace BK262 := zb BK262 hb; replace HB := zA (below_step (zB1 HB GE262) hb); clear hb ho29; obtain ⟨Ao31, co31, eo31⟩ := Kd.R_slice HO276.out; subst eo31) | ((with_reducible refine gate_builtin (b := .append) (xs := #[.tmp 60, .tmp 61]) rfl ?_); at_builtin; refine Kd.R_append_rows k33 (w0 := w) w.heap.size rfl (.tmp 60) (.tmp 61) 27 33 (.agg #[(.int .i64 0), (.int .i64 0)]) 16 rfl Try.underlying27 info33 rfl (by decide) (by omega) v280 y279 t274 _ _ _ (fun k_ => some k_ ≠ (.slice Ao31 t274.length co31 : Value).ownBlock) (fun _ => False) rfl rfl ?aO ?aR (fun _ _ h => h) (fun _ h => h.elim) ?aF ?aB ?aS ?aL ?_; (case aR => exact zC (Kd.R_reads' HO276.out).2.2); (case aB => exact (zB1 HB GE262)); (case aF => exact (fun k_ hk => Kd.fresh' (Kd.R_lt (zR HO276)) k_ hk)); (case aO => exact (by (with_reducible repeat (first | apply Kd.R_alloc | apply Kd.R_drewN | apply Kd.R_drew)); exact Kd.R_mono HO281.out (fun _ hk => hk.2))); (case aS => exact (below_size (zB1 HB GE262))); (case aL => have := LMc23.out; omega); intro v283 w30 ho hb hg hat; rw [← Ny282.out] at ho; have n0_ := zA (blk_grown (g := gb262) (o := .cells #[.int .i64 a0_0, .int .i64 a0_1] 25 (0, 0)) (zD BK262) hg (Kd.R_ne HO281.out BK262.out (by decide))); have n1_ := zA (Kd.R_after (ok := (fun _ => True)) (zR HO276) hg hat); have n2_ := zA (hb); have n3_ := zA (ho); clear BK262; clear HO276; clear HB; clear HO281; have BK262 := n0_; have HO276 := n1_; have HB := n2_; have HO284 := n3_; clear n0_ n1_ n2_ n3_; clear ho hb hg hat))
          go_ret2
          exact ⟨_, zE, by (with_reducible repeat (first | apply Kd.R_alloc | apply Kd.R_drewN | apply Kd.R_drew)); exact Kd.R_mono HO284.out (fun _ hk => trivial), zB1 HB GE262⟩
         ·rw [if_neg c23] at H
          exact absurd H (by simp)
        ·replace c22 := Bool.eq_false_iff.mpr c22
         subst c22
         have H1 : (spec_l6Cover.l0 k1 l1 a3 a4 (wrap64 (x12_1 + 1)) a0_0 a0_1) = some (r1, r2) := by rw [if_neg (show ¬ (false = true) by decide)] at H; exact H
         clear H
         have H := H1
         clear H1
         have H' := zA H
         clear H
         try go_wp2
         have n0_ := zA (blk_drew BK262.out)
         have n1_ := zA (below_drew1 HB.out)
         clear BK262
         clear HB
         have BK262 := n0_
         have HB := n1_
         clear n0_ n1_
         have p272 : 0 ≤ (x12_1 : Int) := of_decide_eq_true (by first | (with_reducible assumption) | assumption)
         have q272 : x12_1 < (l1.length : Int) := of_decide_eq_true (by first | (with_reducible assumption) | assumption)
         obtain ⟨ad272, e272, hx272_0, hx272_1⟩ := at_T33 HR1.out x12_1 p272 q272
         have hw272_1 := hx272_1
         have hw272_0 := hx272_0
         cases e272
         replace hx272_0 := (HB.out.cell (World.block_lt_of_cell? w _ hx272_0)).trans hx272_0
         replace hx272_1 := (HB.out.cell (World.block_lt_of_cell? w _ hx272_1)).trans hx272_1
         replace p272 := eq_true p272
         replace q272 := eq_true q272
         refine start_ (n := 8) (S := fun w' => w'.cell? ⟨gb262, 0, none⟩ = some (.int .i64 a0_0) ∧ w'.cell? ⟨gb262, 1, none⟩ = some (.int .i64 a0_1) ∧ w'.cell? (ad272.add ((x12_1).toNat * 2)) = some (.int .i64 ((rd_T33 l1 x12_1).f0)) ∧ w'.cell? ⟨(ad272.add ((x12_1).toNat * 2)).block, (ad272.add ((x12_1).toNat * 2)).off + 1, none⟩ = some (.int .i64 ((rd_T33 l1 x12_1).f1))) (ds := []) #[false, false, false, false, false, false, false, false] (by kernel_rfl) rfl rfl ⟨(blk_cell BK262.out 0).trans rfl, (blk_cell BK262.out 1).trans rfl, ((HB.out.cell (World.block_lt_of_cell? w _ hw272_0)).trans hw272_0), ((HB.out.cell (World.block_lt_of_cell? w _ hw272_1)).trans hw272_1)⟩ (fun hHeld => ?_); refine with_tabW spec_l6Cover.tab8 spec_l6Cover.bits8 (fun HT_ HW_ => ?_)
         generalize wr.drew = w32 at BK262 HB hx272_0 hx272_1 hHeld ⊢
         refine pure_ (i := 0) (N := some 29) (v := ?_) (a' := ?_) #[true, false, false, false, false, false, false, false] rfl rfl (any_of HT_.out (by kernel_rfl)) (fun _ _ _ h => h) (Or.inl ⟨by rfl, ?_⟩) ?_ ?_
         rotate_left
         ·intro w'
          go_simp
          with_reducible rfl
         rotate_left
         ·exact zU
         refine pure_ (i := 2) (N := some 31) (v := ?_) (a' := ?_) #[true, false, true, false, false, false, false, false] rfl rfl (any_of HT_.out (by kernel_rfl)) (fun _ _ _ h => h) (Or.inl ⟨by rfl, ?_⟩) ?_ ?_
         rotate_left
         ·intro w'
          go_simp
          with_reducible rfl
         rotate_left
         ·exact zU
         refine pure_ (i := 3) (N := some 32) (v := ?_) (a' := ?_) #[true, false, true, true, false, false, false, false] rfl rfl (any_of HT_.out (by kernel_rfl)) (fun _ _ _ h => h) (Or.inl ⟨by rfl, ?_⟩) ?_ ?_
         rotate_left
         ·intro w'
          go_simp
          with_reducible rfl
         rotate_left
         ·exact zU
         refine pure_ (i := 4) (N := some 33) (v := ?_) (a' := ?_) #[true, false, true, true, true, false, false, false] rfl rfl (any_of HT_.out (by kernel_rfl)) (fun _ _ _ h => h) (Or.inl ⟨by rfl, ?_⟩) ?_ ?_
         rotate_left
         ·intro w'
          go_simp
          with_reducible rfl
         rotate_left
         ·exact zU
         refine take_ (i := 1) (N := some 30) (v := ?_) (a' := ?_) #[true, true, true, true, true, false, false, false] rfl rfl (take_ofW HT_.out HW_.out (by kernel_rfl)) (fun _ _ _ h => h) (Or.inl ⟨by rfl, ?_⟩) hHeld ?_ ?_
         rotate_left
         ·rintro w' ⟨s0, s1, s2, s3⟩
          go_simp
          with_reducible rfl
         rotate_left
         ·exact zU
         refine take_ (i := 5) (N := some 34) (v := ?_) (a' := ?_) #[true, true, true, true, true, true, false, false] rfl rfl (take_ofW HT_.out HW_.out (by kernel_rfl)) (fun _ _ _ h => h) (Or.inl ⟨by rfl, ?_⟩) hHeld ?_ ?_
         rotate_left
         ·rintro w' ⟨s0, s1, s2, s3⟩
          go_simp
          with_reducible rfl
         rotate_left
         ·exact zU
         refine one_ (i := 6) (N := some 35) #[true, true, true, true, true, true, true, false] rfl rfl (one_of HT_.out (by kernel_rfl)) (by decide) (fun K hK => ?_)
         refine goes_ Try.func43 (by kernel_rfl) rfl #[.int .i64 a0_0, .agg #[.int .i64 ((rd_T33 l1 x12_1).f0), .int .i64 ((rd_T33 l1 x12_1).f1)]] (by rfl) rfl rfl zM ?_
         with_reducible refine (spec_l6Word.calls k1 a0_0 ((rd_T33 l1 x12_1).f0) ((rd_T33 l1 x12_1).f1) t273 _ A17.out).mono ?_
         rintro e w33 ⟨rfl, hb⟩
         refine ⟨_, rfl, ?_⟩
         have n0_ := zb BK262 hb
         have n1_ := zA (below_step (zB1 HB GE262) hb)
         clear BK262
         clear HB
         have BK262 := n0_
         have HB := n1_
         clear n0_ n1_
         (try clear hb)
         (try clear hb2)
         (try clear hk)
         (try clear hi)
         refine hK.out _ _ ⟨(blk_cell BK262.out 0).trans rfl, (blk_cell BK262.out 1).trans rfl, ((HB.out.cell (World.block_lt_of_cell? w _ hw272_0)).trans hw272_0), ((HB.out.cell (World.block_lt_of_cell? w _ hw272_1)).trans hw272_1)⟩ (fun hHeld => ?_)
         clear hK K
         refine norm_ (a' := ?_) ?_ ?_
         rotate_left
         ·show Act.put _ (some 35) _ = _
          simp only [Act.put, List.setIfInBounds_toArray, List.set_cons_zero, List.set_cons_succ, i64_w, i32_w]
          rfl
         refine pure_ (i := 7) (N := some 13) (v := ?_) (a' := ?_) #[true, true, true, true, true, true, true, true] rfl rfl (any_of HT_.out (by kernel_rfl)) (fun _ _ _ h => h) (Or.inl ⟨by rfl, ?_⟩) ?_ ?_
         rotate_left
         ·intro w'
          go_simp
          with_reducible rfl
         rotate_left
         ·exact zU
         refine done_ (done_of HT_.out (by kernel_rfl)) ?_
         have hcz34_0 := zc0 BK262
         have hcz34_1 := zc1 BK262
         have hfz34_0 := blk_frozen BK262.out 0
         have hfz34_1 := blk_frozen BK262.out 1
         try go_wp2_with (first | ((with_reducible refine gate_callee (f := 38) rfl ?_); refine goesL_ (some 52) rfl rfl Try.func38 (by kernel_rfl) rfl #[.agg #[.int .i64 a0_0, .int .i64 a0_1], .slice (some ad272) l1.length c1, .int .i64 (wrap64 (x12_1 + 1)), .int .i64 (wrap64 (a3 - (Go.bits .and .i64 a3 t273))), .int .i64 (wrap64 (a4 - 1))] rfl zM ?_; (with_reducible refine (ih k1 (by have := HK1.out; omega) a0_0 a0_1 _ _ l1 (wrap64 (x12_1 + 1)) (wrap64 (a3 - (Go.bits .and .i64 a3 t273))) (wrap64 (a4 - 1)) t274 false _ ?side1 ?side2 A21.out).mono ?_); (case side1 => exact zC (Kd.C_below HR1.out HB.out)); (case side2 => exact HC1.out); rintro e w35 ⟨v275, rfl, ho0, hb⟩; refine ⟨_, rfl, ?_⟩; have HO276 := zA (Kd.R_lower ho0 (below_size (zB1 HB GE262))); replace BK262 := zb BK262 hb; replace HB := zA (below_step (zB1 HB GE262) hb); (try clear hb); (try clear hb2); (try clear hk); (try clear hi); (try clear ho0)))
         go_roundg k1
         case measure => have := HK1.out; omega
         case rel => exact ⟨(wrap64 (x12_1 + 1)), zS, H', ⟨by have := HK1.out; omega⟩, ⟨zD BK262⟩, ⟨zB1 HB GE262⟩⟩
      ·rw [if_neg c16] at H
       exact absurd H (by simp)
     ·rw [if_neg c15] at H
      have c15b0 : decide (x12_1 < (l1.length : Int)) = false := decide_eq_false c15
      clear c15
      obtain ⟨y269, hy269⟩ : ∃ y_ : List (S33), y_ = (([] : List (S33))) := ⟨_, rfl⟩
      replace H : (some (y269, false)) = some (r1, r2) := by first | (rw [hy269]; with_reducible exact H) | (have H2_ := (Option.bind_some _ _).symm.trans H; rw [hy269]; with_reducible exact H2_) | (have H2_ := (Option.bind_some _ _).symm.trans H; with_reducible exact H2_) | with_reducible exact H | (rw [hy269]; exact H) | exact H
      have Ny269 := zA hy269
      clear hy269
      simp only [Option.some.injEq, Prod.mk.injEq] at H
      obtain ⟨rfl, rfl⟩ := H
      go_wp2_with (first | ((with_reducible refine gate_dst (N := 63) rfl ?_); refine Kd.R_lit k33 _ 33 ?hg (N := 63) ?hd (xs := ([] : List (S33))) (inner := []) (ok := fun _ => True) (okp := fun _ => True) ?hr ?hp (fun _ hk => hk) trivial (Below.refl _ _) (Nat.le_refl _) (by simp) ?_; (case hd => rfl); (case hg => rfl); (case hr => exact zH); (case hp => exact (Reps.none _ _)); intro v270 w36 ho37 hb hg_ hnew_; clear hg_ hnew_; (first | rw [← Ny269.out] at ho37 | (simp only [Int.reduceToNat] at ho37; rw [← Ny269.out] at ho37)); have HO271 := zA (Kd.R_lower ho37 (below_size (zB1 HB GE262))); replace BK262 := zb BK262 hb; replace HB := zA (below_step (zB1 HB GE262) hb); clear hb ho37))
      go_ret2
      exact ⟨_, zE, by (with_reducible repeat (first | apply Kd.R_alloc | apply Kd.R_drewN | apply Kd.R_drew)); exact HO271.out, zB1 HB GE262⟩

end Go.Proofs.Ytfiejicdlaknnaa.P
