/- The functions that this seat's laws reach, each as a plain Lean function, and the walk of each; written by a program over the kit's print. No conditions but those that stand in the theorems. -/
import Derived.Test.YtfiejicdlaknnaaK2
import Derived.Test.YtfiejicdlaknnaaPm1
import Derived.Test.YtfiejicdlaknnaaK4
import Derived.Test.YtfiejicdlaknnaaPv5
import Derived.Test.YtfiejicdlaknnaaPv7
namespace Go.Proofs.Ytfiejicdlaknnaa.P
open Go.RowKit Go.Proofs.YtfiejicdlaknnaaW.PrintWords Go.Proofs.YtfiejicdlaknnaaW.PrintLast Go.Proofs.YtfiejicdlaknnaaW.PrintMore
attribute [local go_sem] max2_int min2_int max_two min_two max_three min_three max_four min_four   -- for this text's walks alone
set_option linter.unusedVariables false
set_option linter.unusedSimpArgs false

attribute [local go_sem] fld25_0 fld25_1
/-! ### impl_Table_minimal: function 35 -/
mutual
def impl_Table_minimal.l0 : Nat → List (S33) → List Int → List (S33) → Int → Int → Int → Int → Option ((List (S33)))
 | 0, _, _, _, _, _, _, _ => none
 | k + 1, x3, x4, x18, x19, x20, x217000, x217001 => if x20 < x19 then (if 0 ≤ x20 then (if x20 < (x18.length : Int) then ((impl_sumOf.f x217000 (([(⟨(rd_T33 x18 x20).f0, (rd_T33 x18 x20).f1⟩ : S33)] : List (S33)))).bind fun bt228 => (if x20 < (x4.length : Int) then (impl_Table_minimal.l0 k x3 (x4.set (x20 : Int).toNat bt228.2) x18 x19 (wrap64 (x20 + 1)) x217000 x217001) else (none))) else (none)) else (none)) else (impl_Table_minimal.l1 k x3 x4 (wrap64 ((x3.length : Int) + 1)) 0 x217000 x217001)
def impl_Table_minimal.l1 : Nat → List (S33) → List Int → Int → Int → Int → Int → Option ((List (S33)))
 | 0, _, _, _, _, _, _ => none
 | k + 1, x3, x4, x37, x38, x217000, x217001 => if x38 < x37 then ((impl_choose.f k x4 x217001 0 0 x38).bind fun bt231 => (if bt231.2 = true then (impl_Table_minimal.l2 k x3 ([] : List (S33)) bt231.1 (bt231.1.length : Int) 0) else (impl_Table_minimal.l1 k x3 x4 x37 (wrap64 (x38 + 1)) x217000 x217001))) else (some ([] : List (S33)))
def impl_Table_minimal.l2 : Nat → List (S33) → List (S33) → List Int → Int → Int → Option ((List (S33)))
 | 0, _, _, _, _, _ => none
 | k + 1, x3, x10, x50, x51, x52 => if x52 < x51 then (if 0 ≤ x52 then (if x52 < (x50.length : Int) then (if 0 ≤ (rd x50 x52) then (if (rd x50 x52) < (x3.length : Int) then (if x10.length < 8796093022208 then (impl_Table_minimal.l2 k x3 (x10 ++ [(⟨(rd_T33 x3 (rd x50 x52)).f0, (rd_T33 x3 (rd x50 x52)).f1⟩ : S33)]) x50 x51 (wrap64 (x52 + 1))) else (none)) else (none)) else (none)) else (none)) else (none)) else (some x10)
end
def impl_Table_minimal.f (k : Nat) (a0_0 : Int) (a0_1 : Int) : Option ((List (S33))) := (impl_Table_primes.f k a0_0 a0_1).bind fun t217 => (if 0 ≤ (t217.length : Int) then (if ((t217.length : Int) : Int).toNat ≤ 35184372088832 then (impl_Table_minimal.l0 k t217 (List.replicate ((t217.length : Int) : Int).toNat 0) t217 (t217.length : Int) 0 a0_0 a0_1) else (none)) else (none))
theorem impl_Table_minimal.mono_l : ∀ k, (∀ y0 y1 y2 y3 y4 y5 y6, LeO (impl_Table_minimal.l0 k y0 y1 y2 y3 y4 y5 y6) (impl_Table_minimal.l0 (k + 1) y0 y1 y2 y3 y4 y5 y6)) ∧ (∀ y0 y1 y2 y3 y4 y5, LeO (impl_Table_minimal.l1 k y0 y1 y2 y3 y4 y5) (impl_Table_minimal.l1 (k + 1) y0 y1 y2 y3 y4 y5)) ∧ (∀ y0 y1 y2 y3 y4, LeO (impl_Table_minimal.l2 k y0 y1 y2 y3 y4) (impl_Table_minimal.l2 (k + 1) y0 y1 y2 y3 y4))
 | 0 => ⟨fun _ _ _ _ _ _ _ r h => by simp [impl_Table_minimal.l0] at h, fun _ _ _ _ _ _ r h => by simp [impl_Table_minimal.l1] at h, fun _ _ _ _ _ r h => by simp [impl_Table_minimal.l2] at h⟩
 | k + 1 => by
  obtain ⟨ih0, ih1, ih2⟩ := impl_Table_minimal.mono_l k
  refine ⟨?_, ?_, ?_⟩
  ·intro y0 y1 y2 y3 y4 y5 y6
   unfold impl_Table_minimal.l0
   repeat' first
   | (with_reducible exact ih0 _ _ _ _ _ _ _)
   | (with_reducible exact ih1 _ _ _ _ _ _)
   | (with_reducible exact ih2 _ _ _ _ _)
   | (with_reducible exact impl_Table_primes.mono _ _ _)
   | (with_reducible exact impl_choose.mono _ _ _ _ _ _)
   | (with_reducible exact LeO.refl _)
   | (with_reducible exact LeO.none _)
   | (with_reducible refine LeO.ite ?_ ?_)
   | (with_reducible refine LeO.bind ?_ (fun _ => ?_))
   | exact ih0 _ _ _ _ _ _ _
   | exact ih1 _ _ _ _ _ _
   | exact ih2 _ _ _ _ _
   | exact impl_Table_primes.mono _ _ _
   | exact impl_choose.mono _ _ _ _ _ _
   | exact LeO.none _
   | refine LeO.ite ?_ ?_
   | refine LeO.bind ?_ (fun _ => ?_)
  ·intro y0 y1 y2 y3 y4 y5
   unfold impl_Table_minimal.l1
   repeat' first
   | (with_reducible exact ih0 _ _ _ _ _ _ _)
   | (with_reducible exact ih1 _ _ _ _ _ _)
   | (with_reducible exact ih2 _ _ _ _ _)
   | (with_reducible exact impl_Table_primes.mono _ _ _)
   | (with_reducible exact impl_choose.mono _ _ _ _ _ _)
   | (with_reducible exact LeO.refl _)
   | (with_reducible exact LeO.none _)
   | (with_reducible refine LeO.ite ?_ ?_)
   | (with_reducible refine LeO.bind ?_ (fun _ => ?_))
   | exact ih0 _ _ _ _ _ _ _
   | exact ih1 _ _ _ _ _ _
   | exact ih2 _ _ _ _ _
   | exact impl_Table_primes.mono _ _ _
   | exact impl_choose.mono _ _ _ _ _ _
   | exact LeO.none _
   | refine LeO.ite ?_ ?_
   | refine LeO.bind ?_ (fun _ => ?_)
  ·intro y0 y1 y2 y3 y4
   unfold impl_Table_minimal.l2
   repeat' first
   | (with_reducible exact ih0 _ _ _ _ _ _ _)
   | (with_reducible exact ih1 _ _ _ _ _ _)
   | (with_reducible exact ih2 _ _ _ _ _)
   | (with_reducible exact impl_Table_primes.mono _ _ _)
   | (with_reducible exact impl_choose.mono _ _ _ _ _ _)
   | (with_reducible exact LeO.refl _)
   | (with_reducible exact LeO.none _)
   | (with_reducible refine LeO.ite ?_ ?_)
   | (with_reducible refine LeO.bind ?_ (fun _ => ?_))
   | exact ih0 _ _ _ _ _ _ _
   | exact ih1 _ _ _ _ _ _
   | exact ih2 _ _ _ _ _
   | exact impl_Table_primes.mono _ _ _
   | exact impl_choose.mono _ _ _ _ _ _
   | exact LeO.none _
   | refine LeO.ite ?_ ?_
   | refine LeO.bind ?_ (fun _ => ?_)
theorem impl_Table_minimal.mono : ∀ a0 a1 k, LeO (impl_Table_minimal.f k a0 a1) (impl_Table_minimal.f (k + 1) a0 a1) := by
 intro a0 a1 k
 obtain ⟨ih0, ih1, ih2⟩ := impl_Table_minimal.mono_l k
 unfold impl_Table_minimal.f
 repeat' first
   | (with_reducible exact ih0 _ _ _ _ _ _ _)
   | (with_reducible exact ih1 _ _ _ _ _ _)
   | (with_reducible exact ih2 _ _ _ _ _)
   | (with_reducible exact impl_Table_primes.mono _ _ _)
   | (with_reducible exact impl_choose.mono _ _ _ _ _ _)
   | (with_reducible exact LeO.refl _)
   | (with_reducible exact LeO.none _)
   | (with_reducible refine LeO.ite ?_ ?_)
   | (with_reducible refine LeO.bind ?_ (fun _ => ?_))
   | exact ih0 _ _ _ _ _ _ _
   | exact ih1 _ _ _ _ _ _
   | exact ih2 _ _ _ _ _
   | exact impl_Table_primes.mono _ _ _
   | exact impl_choose.mono _ _ _ _ _ _
   | exact LeO.none _
   | refine LeO.ite ?_ ?_
   | refine LeO.bind ?_ (fun _ => ?_)
set_option maxHeartbeats 8000000 in
set_option maxRecDepth 100000 in
theorem impl_Table_minimal.calls (k : Nat) (a0_0 : Int) (a0_1 : Int) (r : List (S33)) (w : World) (h : impl_Table_minimal.f k a0_0 a0_1 = some r) :
  Calls Try.prog 35 #[.agg #[.int .i64 a0_0, .int .i64 a0_1]] w fun e w' => ∃ v0_ : Value, e = .returned (v0_) ∧ Kd.R k33 33 w' w.heap.size (fun _ => True) v0_ r ∧ Below w.heap.size w w' := by
 have hu25 := Try.underlying25
 have hu33 := Try.underlying33
 have HB := zA (Below.refl w.heap.size w)
 have H := h
 unfold impl_Table_minimal.f at H
 clear h
 replace H := Option.bind_eq_some_iff.mp H
 obtain ⟨t217, A20, H⟩ := H
 replace H : (if 0 ≤ (t217.length : Int) then (if ((t217.length : Int) : Int).toNat ≤ 35184372088832 then (impl_Table_minimal.l0 k t217 (List.replicate ((t217.length : Int) : Int).toNat 0) t217 (t217.length : Int) 0 a0_0 a0_1) else (none)) else (none)) = some r := H
 have A2 := zA A20
 clear A20
 by_cases c3 : 0 ≤ (t217.length : Int)
 ·rw [if_pos c3] at H
  have c3b0 := eq_true c3
  have c3b1 : decide (0 ≤ (t217.length : Int)) = true := decide_eq_true c3
  clear c3
  by_cases c4 : ((t217.length : Int) : Int).toNat ≤ 35184372088832
  ·rw [if_pos c4] at H
   have c4b0 := eq_true c4
   have c4b1 : decide (((t217.length : Int) : Int).toNat ≤ 35184372088832) = true := decide_eq_true c4
   clear c4
   obtain ⟨y220, hy220⟩ : ∃ y_ : List Int, y_ = (List.replicate ((t217.length : Int) : Int).toNat 0) := ⟨_, rfl⟩
   replace H : (impl_Table_minimal.l0 k t217 y220 t217 (t217.length : Int) 0 a0_0 a0_1) = some r := by first | (rw [hy220]; with_reducible exact H) | (have H2_ := (Option.bind_some _ _).symm.trans H; rw [hy220]; with_reducible exact H2_) | (have H2_ := (Option.bind_some _ _).symm.trans H; with_reducible exact H2_) | with_reducible exact H | (rw [hy220]; exact H) | exact H
   have Ny220 := zA hy220
   clear hy220
   have H' := zA H
   clear H
   go_enter Try.func35, Try.ntmps35
   go_wp2_with (first | ((with_reducible refine gate_dst (N := 1) rfl ?_); refine box_event ?hg (N := 1) ?hd (cs := #[.int .i64 a0_0, .int .i64 a0_1]) (t := 25) ?hr ?_; (case hd => rfl); (case hg => rfl); (case hr => exact zH); intro gb216 hg w5 hbox hb; have BK216 := zA (hbox); have GW216 := zg HB hg; have GE216 := zg HB hg; replace HB := zA (below_step (zB HB) hb); clear hb hbox hg; have hcz6_0 := zc0 BK216; have hcz6_1 := zc1 BK216; have hfz6_0 := blk_frozen BK216.out 0; have hfz6_1 := blk_frozen BK216.out 1) | ((with_reducible refine gate_callee (f := 40) rfl ?_); refine goesL_ (some 14) rfl rfl Try.func40 (by kernel_rfl) rfl #[.agg #[.int .i64 a0_0, .int .i64 a0_1]] rfl zM ?_; (with_reducible refine (impl_Table_primes.calls k a0_0 a0_1 t217 _ A2.out).mono ?_); rintro e w7 ⟨v218, rfl, ho0, hb⟩; refine ⟨_, rfl, ?_⟩; have HO219 := zA (Kd.R_lower ho0 (below_size (zB1 HB GE216))); replace BK216 := zb BK216 hb; replace HB := zA (below_step (zB1 HB GE216) hb); (try clear hb); (try clear hb2); (try clear hk); (try clear hi); (try clear ho0); obtain ⟨Ao8, co8, eo8⟩ := Kd.R_slice HO219.out; subst eo8) | ((with_reducible refine gate_dst (N := 17) rfl ?_); refine Kd.R_make (Kd.int .i64) _ 3 rfl (N := 17) rfl 74 _ _ rfl (t217.length : Int) rfl rfl Try.underlying74 (.int .i64 0) 8 info3 rfl (by decide) (by omega) 0 (ok := fun _ => True) (okp := fun _ => True) rfl (fun _ hk => hk) trivial (of_decide_eq_true (by first | (with_reducible assumption) | assumption)) (Nat.le_trans (Nat.mul_le_mul_right _ (of_decide_eq_true (by first | (with_reducible assumption) | assumption) : (t217.length : Int).toNat ≤ 35184372088832)) (by omega)) (Below.refl _ _) (Nat.le_refl _) ?_; intro v221 w9 ho10 hb hg_ hnew_; clear hg_ hnew_; (first | rw [← Ny220.out] at ho10 | (simp only [Int.reduceToNat] at ho10; rw [← Ny220.out] at ho10)); have HO222 := zA (Kd.R_lower ho10 (below_size (zB1 HB GE216))); replace HO219 := zA (Kd.R_below (zR HO219) hb); replace BK216 := zb BK216 hb; replace HB := zA (below_step (zB1 HB GE216) hb); clear hb ho10))
   go_loopg [20] k (fun kq v20 w' => ∃ (x4_1 : List Int) (x20_1 : Int), v20 = .int .i64 x20_1 ∧ Aside0 (impl_Table_minimal.l0 kq t217 x4_1 t217 (t217.length : Int) x20_1 a0_0 a0_1 = some r) ∧ Aside0 (kq ≤ k) ∧ Aside0 (Kd.R k33 33 w' w.heap.size (fun _ => True) (.slice Ao8 t217.length co8) t217) ∧ Aside0 (Kd.R (Kd.int .i64) 3 w' w.heap.size (fun _ => True) v221 x4_1) ∧ Aside0 (Kd.R k33 33 w' w.heap.size (fun _ => True) (.slice Ao8 t217.length co8) t217) ∧ Aside0 (w'.heap[gb216]? = some (.cells #[.int .i64 a0_0, .int .i64 a0_1] 25 (0, 0))) ∧ Aside0 (Below w.heap.size w w'))
   case atStart => exact ⟨(y220), (0), zS, H', ⟨Nat.le_refl _⟩, ⟨zR HO219⟩, ⟨zR HO222⟩, ⟨zR HO219⟩, ⟨zD BK216⟩, ⟨zB1 HB GE216⟩⟩
   case round =>
    clear H'
    try clear c3
    try clear c3b0
    try clear c3b1
    try clear c4
    try clear c4b0
    try clear c4b1
    try clear hcz6_0
    try clear hcz6_1
    try clear hfz6_0
    try clear hfz6_1
    obtain ⟨x4_1, x20_1, rfl, HA, HK1, HO_3, HO_4, HO_18, BK216, HB⟩ := hrel
    cases gk with
    | zero => exact absurd HA.out (by simp [impl_Table_minimal.l0])
    | succ k1 =>
     have H := HA.out
     clear HA
     simp only [impl_Table_minimal.l0] at H
     by_cases c11 : x20_1 < (t217.length : Int)
     ·rw [if_pos c11] at H
      have c11b0 : decide (x20_1 < (t217.length : Int)) = true := decide_eq_true c11
      clear c11
      by_cases c12 : 0 ≤ x20_1
      ·rw [if_pos c12] at H
       have c12b0 : decide (0 ≤ x20_1) = true := decide_eq_true c12
       clear c12
       by_cases c13 : x20_1 < (t217.length : Int)
       ·rw [if_pos c13] at H
        have c13b0 : decide (x20_1 < (t217.length : Int)) = true := decide_eq_true c13
        clear c13
        obtain ⟨y225, hy225⟩ : ∃ y_ : List (S33), y_ = (([(⟨(rd_T33 t217 x20_1).f0, (rd_T33 t217 x20_1).f1⟩ : S33)] : List (S33))) := ⟨_, rfl⟩
        replace H : ((impl_sumOf.f a0_0 y225).bind fun bt228 => (if x20_1 < (x4_1.length : Int) then (impl_Table_minimal.l0 k1 t217 (x4_1.set (x20_1 : Int).toNat bt228.2) t217 (t217.length : Int) (wrap64 (x20_1 + 1)) a0_0 a0_1) else (none))) = some r := by first | (rw [hy225]; with_reducible exact H) | (have H2_ := (Option.bind_some _ _).symm.trans H; rw [hy225]; with_reducible exact H2_) | (have H2_ := (Option.bind_some _ _).symm.trans H; with_reducible exact H2_) | with_reducible exact H | (rw [hy225]; exact H) | exact H
        have Ny225 := zA hy225
        clear hy225
        replace H := Option.bind_eq_some_iff.mp H
        obtain ⟨⟨t228, t229⟩, A140, H⟩ := H
        replace H : (if x20_1 < (x4_1.length : Int) then (impl_Table_minimal.l0 k1 t217 (x4_1.set (x20_1 : Int).toNat t229) t217 (t217.length : Int) (wrap64 (x20_1 + 1)) a0_0 a0_1) else (none)) = some r := H
        have A14 := zA A140
        clear A140
        by_cases c15 : x20_1 < (x4_1.length : Int)
        ·rw [if_pos c15] at H
         have c15b0 : decide (x20_1 < (x4_1.length : Int)) = true := decide_eq_true c15
         clear c15
         obtain ⟨y230, hy230⟩ : ∃ y_ : List Int, y_ = (x4_1.set (x20_1 : Int).toNat t229) := ⟨_, rfl⟩
         replace H : (impl_Table_minimal.l0 k1 t217 y230 t217 (t217.length : Int) (wrap64 (x20_1 + 1)) a0_0 a0_1) = some r := by first | (rw [hy230]; with_reducible exact H) | (have H2_ := (Option.bind_some _ _).symm.trans H; rw [hy230]; with_reducible exact H2_) | (have H2_ := (Option.bind_some _ _).symm.trans H; with_reducible exact H2_) | with_reducible exact H | (rw [hy230]; exact H) | exact H
         have Ny230 := zA hy230
         clear hy230
         have H' := zA H
         clear H
         have p223 : 0 ≤ (x20_1 : Int) := of_decide_eq_true (by first | (with_reducible assumption) | assumption)
         have q223 : x20_1 < (t217.length : Int) := of_decide_eq_true (by first | (with_reducible assumption) | assumption)
         obtain ⟨ad223, e223, hx223_0, hx223_1⟩ := at_T33 (Kd.R_reads' HO_18.out).2.2 x20_1 p223 q223
         cases e223
         replace p223 := eq_true p223
         replace q223 := eq_true q223
         go_wp2_with (first | ((with_reducible refine gate_dst (N := 6) rfl ?_); refine box_event ?hg (N := 6) ?hd (cs := #[.int .i64 0, .int .i64 0]) (t := 33) ?hr ?_; (case hd => rfl); (case hg => rfl); (case hr => exact zH); intro gb224 hg w17 hbox hb; have BK224 := zA (hbox); have GW224 := zg1 HB GE216 hg; have GE224 := zg1 HB GE216 hg; have NB216_224 := zn BK216 hg; have NB224_216 := zo BK216 hg; replace HO_3 := zA (Kd.R_below (Kd.R_elderB (zR HO_3) gb224 (Nat.le_of_eq hg.symm)) hb); replace HO_4 := zA (Kd.R_below (zR HO_4) hb); replace HO_18 := zA (Kd.R_below (Kd.R_elderB (zR HO_18) gb224 (Nat.le_of_eq hg.symm)) hb); replace BK216 := zb BK216 hb; replace HB := zA (below_step (zB1 HB GE216) hb); clear hb hbox hg; have hnb18 := NB224_216.out; have hnc18 := NB216_224.out; have hcz19_0 := zc0 BK224; have hcz19_1 := zc1 BK224; have hfz19_0 := blk_frozen BK224.out 0; have hfz19_1 := blk_frozen BK224.out 1; have hcz20_0 := zc0 BK216; have hcz20_1 := zc1 BK216; have hfz20_0 := blk_frozen BK216.out 0; have hfz20_1 := blk_frozen BK216.out 1) | ((with_reducible refine gate_dst (N := 30) rfl ?_); refine Kd.R_lit k33 _ 33 ?hg (N := 30) ?hd (xs := ([(⟨(rd_T33 t217 x20_1).f0, (rd_T33 t217 x20_1).f1⟩ : S33)] : List (S33))) (inner := [.int .i64 ((rd_T33 t217 x20_1).f0), .int .i64 ((rd_T33 t217 x20_1).f1)]) (ok := fun _ => True) (okp := fun _ => True) ?hr ?hp (fun _ hk => hk) trivial (Below.refl _ _) (Nat.le_refl _) (by simp) ?_; (case hd => rfl); (case hg => rfl); (case hr => exact zH); (case hp => exact (Reps.c2 (show Kd.M k33 _ _ _ (⟨(rd_T33 t217 x20_1).f0, (rd_T33 t217 x20_1).f1⟩ : S33) [.int .i64 ((rd_T33 t217 x20_1).f0), .int .i64 ((rd_T33 t217 x20_1).f1)] from (k33_mkM _ _ _ (⟨(rd_T33 t217 x20_1).f0, (rd_T33 t217 x20_1).f1⟩ : S33) )) (Reps.none _ _))); intro v226 w21 ho22 hb hg_ hnew_; clear hg_ hnew_; (first | rw [← Ny225.out] at ho22 | (simp only [Int.reduceToNat] at ho22; rw [← Ny225.out] at ho22)); have HO227 := zA (Kd.R_lower (Kd.R_newB (Kd.R_new' (Kd.R_new' ho22 (Kd.R_lt (by (with_reducible repeat (first | apply Kd.R_alloc | apply Kd.R_drewN | apply Kd.R_drew)); exact (Kd.R_mono (Kd.R_far (p := ⟨gb224, 1, none⟩) (Kd.R_far (p := ⟨gb224, 0, none⟩) (Kd.R_mono HO_3.out (fun k_ hk => (⟨hk, hk.2⟩ : _ ∧ k_ ≠ gb224))) (fun _ hk => hk.2) (.int .i64 ((rd_T33 t217 x20_1).f0))) (fun _ hk => hk.2) (.int .i64 ((rd_T33 t217 x20_1).f1))) (fun _ h_ => h_.1))))) (Kd.R_lt (by (with_reducible repeat (first | apply Kd.R_alloc | apply Kd.R_drewN | apply Kd.R_drew)); exact (Kd.R_mono (Kd.R_far (p := ⟨gb224, 1, none⟩) (Kd.R_far (p := ⟨gb224, 0, none⟩) (Kd.R_mono HO_18.out (fun k_ hk => (⟨hk, hk.2⟩ : _ ∧ k_ ≠ gb224))) (fun _ hk => hk.2) (.int .i64 ((rd_T33 t217 x20_1).f0))) (fun _ hk => hk.2) (.int .i64 ((rd_T33 t217 x20_1).f1))) (fun _ h_ => h_.1))))) (g := gb224) (o := .cells #[.int .i64 ((rd_T33 t217 x20_1).f0), .int .i64 ((rd_T33 t217 x20_1).f1)] 33 (0, 0)) (zP BK224)) (below_size (zB2 HB GE216 GE224))); replace HO_3 := zA (Kd.R_elder' (by (with_reducible repeat (first | apply Kd.R_alloc | apply Kd.R_drewN | apply Kd.R_drew)); exact (Kd.R_mono (Kd.R_far (p := ⟨gb224, 1, none⟩) (Kd.R_far (p := ⟨gb224, 0, none⟩) (Kd.R_mono HO_3.out (fun k_ hk => (⟨hk, hk.2⟩ : _ ∧ k_ ≠ gb224))) (fun _ hk => hk.2) (.int .i64 ((rd_T33 t217 x20_1).f0))) (fun _ hk => hk.2) (.int .i64 ((rd_T33 t217 x20_1).f1))) (fun _ h_ => h_.1))) (Kd.R_base ho22) hb); replace HO_4 := zA (Kd.R_below (by (with_reducible repeat (first | apply Kd.R_alloc | apply Kd.R_drewN | apply Kd.R_drew)); exact (Kd.R_mono (Kd.R_far (p := ⟨gb224, 1, none⟩) (Kd.R_far (p := ⟨gb224, 0, none⟩) (Kd.R_types HO_4.out BK224.out (by decide)) (fun _ hk => hk.2) (.int .i64 ((rd_T33 t217 x20_1).f0))) (fun _ hk => hk.2) (.int .i64 ((rd_T33 t217 x20_1).f1))) (fun _ h_ => h_.1))) hb); replace HO_18 := zA (Kd.R_elder' (by (with_reducible repeat (first | apply Kd.R_alloc | apply Kd.R_drewN | apply Kd.R_drew)); exact (Kd.R_mono (Kd.R_far (p := ⟨gb224, 1, none⟩) (Kd.R_far (p := ⟨gb224, 0, none⟩) (Kd.R_mono HO_18.out (fun k_ hk => (⟨hk, hk.2⟩ : _ ∧ k_ ≠ gb224))) (fun _ hk => hk.2) (.int .i64 ((rd_T33 t217 x20_1).f0))) (fun _ hk => hk.2) (.int .i64 ((rd_T33 t217 x20_1).f1))) (fun _ h_ => h_.1))) (Kd.R_base ho22) hb); replace BK216 := zf BK216 NB216_224 hb; replace BK224 := zp BK224 hb; replace HB := zA (below_step (zB2 HB GE216 GE224) hb); clear hb ho22; obtain ⟨Ao23, co23, eo23⟩ := Kd.R_slice HO227.out; subst eo23) | ((with_reducible refine gate_callee (f := 42) rfl ?_); refine goesL_ (some 31) rfl rfl Try.func42 (by kernel_rfl) rfl #[.int .i64 a0_0, .slice Ao23 y225.length co23] rfl zM ?_; (with_reducible refine (impl_sumOf.calls a0_0 _ _ y225 t228 t229 _ ?side1 ?side2 A14.out).mono ?_); (case side1 => exact zC (Kd.R_reads' HO227.out).2.2); (case side2 => exact (Kd.R_reads' HO227.out).2.1); rintro e w24 ⟨rfl, hb⟩; refine ⟨_, rfl, ?_⟩; replace HO_3 := zA (Kd.R_below (zR HO_3) hb); replace HO_4 := zA (Kd.R_below (zR HO_4) hb); replace HO_18 := zA (Kd.R_below (zR HO_18) hb); replace HO227 := zA (Kd.R_below (zR HO227) hb); replace BK216 := zb BK216 hb; replace BK224 := zb BK224 hb; replace HB := zA (below_step (zB2 HB GE216 GE224) hb); (try clear hb); (try clear hb2); (try clear hk); (try clear hi); have p16 : 0 ≤ (x20_1 : Int) := of_decide_eq_true (by first | (with_reducible assumption) | assumption); have q16 : (x20_1 : Int) < ((x4_1.length : Int) : Int) := of_decide_eq_true (by first | (with_reducible assumption) | assumption); obtain ⟨go16, co16, eo16, gb16, gl16, cl16, HG16⟩ := Kd.R_form HO_4.out (by omega); (first | cases eo16 | (injection eo16 with ea_ en_ ec_; (first | subst ea_ | (injection ea_ with ea_; subst ea_)); subst ec_; clear en_)); have GB16 := zA gb16; have GG16 := zA HG16; clear gb16 gl16 HG16; obtain ⟨hx16_0, hf16_0⟩ := Kd.R_celln 0 HO_4.out (x20_1 : Int) p16 q16; replace p16 := eq_true p16; replace q16 := eq_true q16; obtain ⟨hy25_, hz25_⟩ := Kd.R_celln 0 HO_4.out (x20_1 : Int) (of_decide_eq_true (by first | (with_reducible assumption) | assumption)) (of_decide_eq_true (by first | (with_reducible assumption) | assumption)); have HP25 := Kd.R_putg HO_4.out (x20_1 : Int) t229) | ((with_reducible refine gate_store (t := 3) (p := 33) rfl ?_); refine store_event (t := 3) (p := 33) (v := ?vo_w26) (w1 := (w24.setCell ⟨go16, (x20_1 : Int).toNat, none⟩ (.int .i64 t229))) ?hg ?ho ?hn ?hr ?_; (case ho => rfl); (case hg => rfl); (case hn => rfl); (case hr => first | (go_simp; done) | (go_simp; rfl)); intro w26 hw; have hg : w24.grownBy w26 (some go16) := (by rw [hw]; exact HP25.2); have hp_ : Kd.R (Kd.int .i64) 3 w26 w.heap.size (fun _ => True) (.slice (some ⟨go16, 0, none⟩) x4_1.length co16) y230 := (by rw [hw, Ny230.out]; exact HP25.1); clear HP25; replace HO_3 := zA (Kd.R_over' (v := (.slice (some ⟨go16, 0, none⟩) x4_1.length co16)) (zR HO_3) (Kd.R_typed HO_4.out) (by decide) hg); replace HO_18 := zA (Kd.R_over' (v := (.slice (some ⟨go16, 0, none⟩) x4_1.length co16)) (zR HO_18) (Kd.R_typed HO_4.out) (by decide) hg); replace BK216 := zA (blk_grown (g := gb216) (o := .cells #[.int .i64 a0_0, .int .i64 a0_1] 25 (0, 0)) (zD BK216) hg (Kd.R_ne HO_4.out BK216.out (by decide))); replace BK224 := zA (blk_grown (g := gb224) (o := .cells #[.int .i64 ((rd_T33 t217 x20_1).f0), .int .i64 ((rd_T33 t217 x20_1).f1)] 33 (0, 0)) (zD BK224) hg (Kd.R_ne HO_4.out BK224.out (by decide))); replace HO227 := zA (Kd.R_over' (v := (.slice (some ⟨go16, 0, none⟩) x4_1.length co16)) (zR HO227) (Kd.R_typed HO_4.out) (by decide) hg); replace HO_4 := zA (hp_); replace HB := zA ((by rw [hw]; exact below_set (HB.out) GB16.out : Below w.heap.size w w26)); clear hg hw hp_))
         go_roundg k1
         case measure => have := HK1.out; omega
         case rel => exact ⟨(y230), (wrap64 (x20_1 + 1)), zS, H', ⟨by have := HK1.out; omega⟩, ⟨by (with_reducible repeat (first | apply Kd.R_alloc | apply Kd.R_drewN | apply Kd.R_drew)); exact Kd.R_mono HO_3.out (fun _ hk => trivial)⟩, ⟨zR HO_4⟩, ⟨by (with_reducible repeat (first | apply Kd.R_alloc | apply Kd.R_drewN | apply Kd.R_drew)); exact Kd.R_mono HO_18.out (fun _ hk => trivial)⟩, ⟨zD BK216⟩, ⟨zB2 HB GE216 GE224⟩⟩
        ·rw [if_neg c15] at H
         exact absurd H (by simp)
       ·rw [if_neg c13] at H
        exact absurd H (by simp)
      ·rw [if_neg c12] at H
       exact absurd H (by simp)
     ·rw [if_neg c11] at H
      have c11b0 : decide (x20_1 < (t217.length : Int)) = false := decide_eq_false c11
      clear c11
      have H' := zA H
      clear H
      go_wp2
      go_loopg [38] k1 (fun kq v38 w' => ∃ (x38_2 : Int), v38 = .int .i64 x38_2 ∧ Aside0 (impl_Table_minimal.l1 kq t217 x4_1 (wrap64 ((t217.length : Int) + 1)) x38_2 a0_0 a0_1 = some r) ∧ Aside0 (kq ≤ k1) ∧ Aside0 (Kd.R k33 33 w' w.heap.size (fun _ => True) (.slice Ao8 t217.length co8) t217) ∧ Aside0 (Kd.R (Kd.int .i64) 3 w' w.heap.size (fun _ => True) v221 x4_1) ∧ Aside0 (w'.heap[gb216]? = some (.cells #[.int .i64 a0_0, .int .i64 a0_1] 25 (0, 0))) ∧ Aside0 (Below w.heap.size w w'))
      case atStart => exact ⟨(0), zS, H', ⟨Nat.le_refl _⟩, ⟨zR HO_3⟩, ⟨zR HO_4⟩, ⟨zD BK216⟩, ⟨zB1 HB GE216⟩⟩
      case round =>
       clear H'
       try clear c3
       try clear c3b0
       try clear c3b1
       try clear c4
       try clear c4b0
       try clear c4b1
       try clear c11
       try clear c11b0
       try clear hcz6_0
       try clear hcz6_1
       try clear hfz6_0
       try clear hfz6_1
       obtain ⟨x38_2, rfl, HA, HK2, HO_3, HO_4, BK216, HB⟩ := hrel
       cases gk with
       | zero => exact absurd HA.out (by simp [impl_Table_minimal.l1])
       | succ k2 =>
        have H := HA.out
        clear HA
        simp only [impl_Table_minimal.l1] at H
        by_cases c27 : x38_2 < (wrap64 ((t217.length : Int) + 1))
        ·rw [if_pos c27] at H
         have c27b0 : decide (x38_2 < (wrap64 ((t217.length : Int) + 1))) = true := decide_eq_true c27
         clear c27
         replace H := Option.bind_eq_some_iff.mp H
         obtain ⟨⟨t231, t232⟩, A280, H⟩ := H
         replace H : (if t232 = true then (impl_Table_minimal.l2 k2 t217 ([] : List (S33)) t231 (t231.length : Int) 0) else (impl_Table_minimal.l1 k2 t217 x4_1 (wrap64 ((t217.length : Int) + 1)) (wrap64 (x38_2 + 1)) a0_0 a0_1)) = some r := H
         have A28 := zA A280
         clear A280
         by_cases c29 : t232 = true
         ·subst c29
          have H1 : (impl_Table_minimal.l2 k2 t217 ([] : List (S33)) t231 (t231.length : Int) 0) = some r := by rw [if_pos rfl] at H; exact H
          clear H
          have H := H1
          clear H1
          have H' := zA H
          clear H
          have hcz30_0 := zc0 BK216
          have hcz30_1 := zc1 BK216
          have hfz30_0 := blk_frozen BK216.out 0
          have hfz30_1 := blk_frozen BK216.out 1
          obtain ⟨Ao31, co31, eo31⟩ := Kd.R_slice HO_4.out
          subst eo31
          go_wp2_with (first | ((with_reducible refine gate_callee (f := 62) rfl ?_); refine goesL_ (some 46) rfl rfl Try.func62 (by kernel_rfl) rfl #[.slice Ao31 x4_1.length co31, .int .i64 a0_1, .int .i64 0, .int .i64 0, .int .i64 x38_2] rfl zM ?_; (with_reducible refine (impl_choose.calls k2 _ _ x4_1 a0_1 0 0 x38_2 t231 true _ ?side1 ?side2 A28.out).mono ?_); (case side1 => exact zC (Kd.R_reads' HO_4.out).2.2); (case side2 => exact (Kd.R_reads' HO_4.out).2.1); rintro e w32 ⟨v233, rfl, ho0, hb⟩; refine ⟨_, rfl, ?_⟩; have HO234 := zA (Kd.R_lower (Kd.R_new' ho0 (Kd.R_lt (zR HO_4))) (below_size (zB1 HB GE216))); replace HO_3 := zA (Kd.R_below (zR HO_3) hb); replace HO_4 := zA (Kd.R_elder' (zR HO_4) (Kd.R_base ho0) hb); replace BK216 := zb BK216 hb; replace HB := zA (below_step (zB1 HB GE216) hb); (try clear hb); (try clear hb2); (try clear hk); (try clear hi); (try clear ho0); obtain ⟨Ao33, co33, eo33⟩ := Kd.R_slice HO234.out; subst eo33))
          go_loopg [10, 52] k2 (fun kq v10 v52 w' => ∃ (x10_3 : List (S33)) (x52_3 : Int), v52 = .int .i64 x52_3 ∧ Aside0 (impl_Table_minimal.l2 kq t217 x10_3 t231 (t231.length : Int) x52_3 = some r) ∧ Aside0 (kq ≤ k2) ∧ Aside0 (Kd.R k33 33 w' w.heap.size (fun k_ => some k_ ≠ (v10 : Value).ownBlock) (.slice Ao8 t217.length co8) t217) ∧ Aside0 (Kd.R k33 33 w' w.heap.size (fun k_ => some k_ ≠ ((.slice Ao8 t217.length co8) : Value).ownBlock) v10 x10_3) ∧ Aside0 (Kd.R (Kd.int .i64) 3 w' w.heap.size (fun _ => True) (.slice Ao33 t231.length co33) t231) ∧ Aside0 (w'.heap[gb216]? = some (.cells #[.int .i64 a0_0, .int .i64 a0_1] 25 (0, 0))) ∧ Aside0 (Below w.heap.size w w'))
          case atStart => exact ⟨(([] : List (S33))), (0), zS, H', ⟨Nat.le_refl _⟩, ⟨by (with_reducible repeat (first | apply Kd.R_alloc | apply Kd.R_drewN | apply Kd.R_drew)); exact Kd.R_mono HO_3.out (fun _ hk => (by simp [Value.ownBlock]))⟩, ⟨by first | exact Kd.R_nil _ _ _ _ _ | exact Kd.N_nil _ _ _ _ _ | exact Kd.V_nil _ _ _ _ _ | exact Kd.Q_nil _ _ _ _ _ | exact Kd.S_nil _ _ _ _ _⟩, ⟨by (with_reducible repeat (first | apply Kd.R_alloc | apply Kd.R_drewN | apply Kd.R_drew)); exact Kd.R_mono HO234.out (fun _ hk => trivial)⟩, ⟨zD BK216⟩, ⟨zB1 HB GE216⟩⟩
          case round =>
           clear H'
           try clear c3
           try clear c3b0
           try clear c3b1
           try clear c4
           try clear c4b0
           try clear c4b1
           try clear c11
           try clear c11b0
           try clear c27
           try clear c27b0
           try clear c29
           try clear hcz30_0
           try clear hcz30_1
           try clear hcz6_0
           try clear hcz6_1
           try clear hfz30_0
           try clear hfz30_1
           try clear hfz6_0
           try clear hfz6_1
           obtain ⟨x10_3, x52_3, rfl, HA, HK3, HO_3, HO_10, HO_50, BK216, HB⟩ := hrel
           cases gk with
           | zero => exact absurd HA.out (by simp [impl_Table_minimal.l2])
           | succ k3 =>
            have H := HA.out
            clear HA
            simp only [impl_Table_minimal.l2] at H
            by_cases c34 : x52_3 < (t231.length : Int)
            ·rw [if_pos c34] at H
             have c34b0 : decide (x52_3 < (t231.length : Int)) = true := decide_eq_true c34
             clear c34
             by_cases c35 : 0 ≤ x52_3
             ·rw [if_pos c35] at H
              have c35b0 : decide (0 ≤ x52_3) = true := decide_eq_true c35
              clear c35
              by_cases c36 : x52_3 < (t231.length : Int)
              ·rw [if_pos c36] at H
               have c36b0 : decide (x52_3 < (t231.length : Int)) = true := decide_eq_true c36
               clear c36
               by_cases c37 : 0 ≤ (rd t231 x52_3)
               ·rw [if_pos c37] at H
                have c37b0 : decide (0 ≤ (rd t231 x52_3)) = true := decide_eq_true c37
                clear c37
                by_cases c38 : (rd t231 x52_3) < (t217.length : Int)
                ·rw [if_pos c38] at H
                 have c38b0 : decide ((rd t231 x52_3) < (t217.length : Int)) = true := decide_eq_true c38
                 clear c38
                 by_cases c39 : x10_3.length < 8796093022208
                 ·rw [if_pos c39] at H
                  have LMc39 := zA c39
                  clear c39
                  obtain ⟨y237, hy237⟩ : ∃ y_ : List (S33), y_ = (x10_3 ++ [(⟨(rd_T33 t217 (rd t231 x52_3)).f0, (rd_T33 t217 (rd t231 x52_3)).f1⟩ : S33)]) := ⟨_, rfl⟩
                  replace H : (impl_Table_minimal.l2 k3 t217 y237 t231 (t231.length : Int) (wrap64 (x52_3 + 1))) = some r := by first | (rw [hy237]; with_reducible exact H) | (have H2_ := (Option.bind_some _ _).symm.trans H; rw [hy237]; with_reducible exact H2_) | (have H2_ := (Option.bind_some _ _).symm.trans H; with_reducible exact H2_) | with_reducible exact H | (rw [hy237]; exact H) | exact H
                  have Ny237 := zA hy237
                  clear hy237
                  have H' := zA H
                  clear H
                  have p235 : 0 ≤ (x52_3 : Int) := of_decide_eq_true (by first | (with_reducible assumption) | assumption)
                  have q235 : x52_3 < (t231.length : Int) := of_decide_eq_true (by first | (with_reducible assumption) | assumption)
                  obtain ⟨ad235, e235, hx235_0⟩ := Kd.at_int (Kd.R_reads' HO_50.out).2.2 x52_3 p235 q235
                  cases e235
                  replace p235 := eq_true p235
                  replace q235 := eq_true q235
                  have p236 : 0 ≤ ((rd t231 x52_3) : Int) := of_decide_eq_true (by first | (with_reducible assumption) | assumption)
                  have q236 : (rd t231 x52_3) < (t217.length : Int) := of_decide_eq_true (by first | (with_reducible assumption) | assumption)
                  obtain ⟨ad236, e236, hx236_0, hx236_1⟩ := at_T33 (Kd.R_reads' HO_3.out).2.2 (rd t231 x52_3) p236 q236
                  cases e236
                  replace p236 := eq_true p236
                  replace q236 := eq_true q236
                  go_wp2_with (first | ((with_reducible refine gate_builtin (b := .append) (xs := #[.tmp 56, .tmp 61]) rfl ?_); at_builtin; refine Kd.R_append k33 (w0 := w) w.heap.size rfl (.tmp 56) (.tmp 61) 27 33 (.agg #[(.int .i64 0), (.int .i64 0)]) 16 rfl Try.underlying27 info33 rfl (by decide) (by omega) u10 x10_3 (⟨(rd_T33 t217 (rd t231 x52_3)).f0, (rd_T33 t217 (rd t231 x52_3)).f1⟩ : S33) [.int .i64 ((rd_T33 t217 (rd t231 x52_3)).f0), .int .i64 ((rd_T33 t217 (rd t231 x52_3)).f1)] (fun k_ => some k_ ≠ (.slice (some ad236) t217.length co8 : Value).ownBlock) (fun _ => False) rfl rfl ?aP (fun _ hk => hk.elim) ?aF ?aO ?aB ?aS ?aL ?_; (case aP => exact k33_mkM _ _ _ (⟨(rd_T33 t217 (rd t231 x52_3)).f0, (rd_T33 t217 (rd t231 x52_3)).f1⟩ : S33)); (case aB => exact (zB1 HB GE216)); (case aF => exact (fun k_ hk => Kd.fresh' (Kd.R_lt (zR HO_3)) k_ hk)); (case aO => exact (zR HO_10)); (case aS => exact (below_size (zB1 HB GE216))); (case aL => have := LMc39.out; omega); intro v238 w40 ho hb hg hat; rw [← Ny237.out] at ho; have n0_ := zA (Kd.R_after (ok := (fun _ => True)) (by (with_reducible repeat (first | apply Kd.R_alloc | apply Kd.R_drewN | apply Kd.R_drew)); exact Kd.R_mono HO_3.out (fun _ hk => ⟨trivial, hk⟩)) hg hat); have n1_ := zA (Kd.R_over' (zR HO_50) (Kd.R_typed (zR HO_10)) (by decide) hg); have n2_ := zA (blk_grown (g := gb216) (o := .cells #[.int .i64 a0_0, .int .i64 a0_1] 25 (0, 0)) (zD BK216) hg (Kd.R_ne HO_10.out BK216.out (by decide))); have n3_ := zA (hb); have n4_ := zA (ho); clear HO_3; clear HO_50; clear BK216; clear HB; clear HO_10; have HO_3 := n0_; have HO_50 := n1_; have BK216 := n2_; have HB := n3_; have HO239 := n4_; clear n0_ n1_ n2_ n3_ n4_; clear ho hb hg hat))
                  go_roundg k3
                  case measure => have := HK1.out; have := HK2.out; have := HK3.out; omega
                  case rel => exact ⟨(y237), (wrap64 (x52_3 + 1)), zS, H', ⟨by have := HK1.out; have := HK2.out; have := HK3.out; omega⟩, ⟨by (with_reducible repeat (first | apply Kd.R_alloc | apply Kd.R_drewN | apply Kd.R_drew)); exact Kd.R_mono HO_3.out (fun _ hk => hk.2)⟩, ⟨zR HO239⟩, ⟨zR HO_50⟩, ⟨zD BK216⟩, ⟨zB1 HB GE216⟩⟩
                 ·rw [if_neg c39] at H
                  exact absurd H (by simp)
                ·rw [if_neg c38] at H
                 exact absurd H (by simp)
               ·rw [if_neg c37] at H
                exact absurd H (by simp)
              ·rw [if_neg c36] at H
               exact absurd H (by simp)
             ·rw [if_neg c35] at H
              exact absurd H (by simp)
            ·rw [if_neg c34] at H
             have c34b0 : decide (x52_3 < (t231.length : Int)) = false := decide_eq_false c34
             clear c34
             obtain rfl := Option.some.inj H
             go_wp2
             go_ret
             exact ⟨_, zE, by (with_reducible repeat (first | apply Kd.R_alloc | apply Kd.R_drewN | apply Kd.R_drew)); exact Kd.R_mono HO_10.out (fun _ hk => trivial), zB1 HB GE216⟩
         ·replace c29 := Bool.eq_false_iff.mpr c29
          subst c29
          have H1 : (impl_Table_minimal.l1 k2 t217 x4_1 (wrap64 ((t217.length : Int) + 1)) (wrap64 (x38_2 + 1)) a0_0 a0_1) = some r := by rw [if_neg (show ¬ (false = true) by decide)] at H; exact H
          clear H
          have H := H1
          clear H1
          have H' := zA H
          clear H
          have hcz41_0 := zc0 BK216
          have hcz41_1 := zc1 BK216
          have hfz41_0 := blk_frozen BK216.out 0
          have hfz41_1 := blk_frozen BK216.out 1
          obtain ⟨Ao42, co42, eo42⟩ := Kd.R_slice HO_4.out
          subst eo42
          go_wp2_with (first | ((with_reducible refine gate_callee (f := 62) rfl ?_); refine goesL_ (some 46) rfl rfl Try.func62 (by kernel_rfl) rfl #[.slice Ao42 x4_1.length co42, .int .i64 a0_1, .int .i64 0, .int .i64 0, .int .i64 x38_2] rfl zM ?_; (with_reducible refine (impl_choose.calls k2 _ _ x4_1 a0_1 0 0 x38_2 t231 false _ ?side1 ?side2 A28.out).mono ?_); (case side1 => exact zC (Kd.R_reads' HO_4.out).2.2); (case side2 => exact (Kd.R_reads' HO_4.out).2.1); rintro e w43 ⟨v233, rfl, ho0, hb⟩; refine ⟨_, rfl, ?_⟩; have HO234 := zA (Kd.R_lower (Kd.R_new' ho0 (Kd.R_lt (zR HO_4))) (below_size (zB1 HB GE216))); replace HO_3 := zA (Kd.R_below (zR HO_3) hb); replace HO_4 := zA (Kd.R_elder' (zR HO_4) (Kd.R_base ho0) hb); replace BK216 := zb BK216 hb; replace HB := zA (below_step (zB1 HB GE216) hb); (try clear hb); (try clear hb2); (try clear hk); (try clear hi); (try clear ho0)))
          go_roundg k2
          case measure => have := HK1.out; have := HK2.out; omega
          case rel => exact ⟨(wrap64 (x38_2 + 1)), zS, H', ⟨by have := HK1.out; have := HK2.out; omega⟩, ⟨zR HO_3⟩, ⟨by (with_reducible repeat (first | apply Kd.R_alloc | apply Kd.R_drewN | apply Kd.R_drew)); exact Kd.R_mono HO_4.out (fun _ hk => trivial)⟩, ⟨zD BK216⟩, ⟨zB1 HB GE216⟩⟩
        ·rw [if_neg c27] at H
         have c27b0 : decide (x38_2 < (wrap64 ((t217.length : Int) + 1))) = false := decide_eq_false c27
         clear c27
         obtain rfl := Option.some.inj H
         go_wp2
         go_ret
         exact ⟨_, zE, by first | exact Kd.R_nil _ _ _ _ _ | exact Kd.N_nil _ _ _ _ _ | exact Kd.V_nil _ _ _ _ _ | exact Kd.Q_nil _ _ _ _ _ | exact Kd.S_nil _ _ _ _ _, zB1 HB GE216⟩
  ·rw [if_neg c4] at H
   exact absurd H (by simp)
 ·rw [if_neg c3] at H
  exact absurd H (by simp)

/-! ### impl_MinimalSum: function 6 -/
def impl_MinimalSum.f (k : Nat) (a0_0 : Int) (a0_1 : Int) : Option ((List (S33)) × Bool) := (impl_isSmall.f a0_0 a0_1 4).bind fun t241 => (if t241 = true then ((impl_Table_minimal.f k a0_0 a0_1).bind fun t242 => (some (t242, true))) else (some (([] : List (S33)), false)))
theorem impl_MinimalSum.mono : ∀ a0 a1 k, LeO (impl_MinimalSum.f k a0 a1) (impl_MinimalSum.f (k + 1) a0 a1) := by
 intro a0 a1 k
 unfold impl_MinimalSum.f
 repeat' first
   | (with_reducible exact impl_Table_minimal.mono _ _ _)
   | (with_reducible exact LeO.refl _)
   | (with_reducible exact LeO.none _)
   | (with_reducible refine LeO.ite ?_ ?_)
   | (with_reducible refine LeO.bind ?_ (fun _ => ?_))
   | exact impl_Table_minimal.mono _ _ _
   | exact LeO.none _
   | refine LeO.ite ?_ ?_
   | refine LeO.bind ?_ (fun _ => ?_)
set_option maxHeartbeats 8000000 in
set_option maxRecDepth 100000 in
theorem impl_MinimalSum.calls (k : Nat) (a0_0 : Int) (a0_1 : Int) (r1 : List (S33)) (r2 : Bool) (w : World) (h : impl_MinimalSum.f k a0_0 a0_1 = some (r1, r2)) :
  Calls Try.prog 6 #[.agg #[.int .i64 a0_0, .int .i64 a0_1]] w fun e w' => ∃ v0_ : Value, e = .returned (.tuple #[v0_, .bool r2]) ∧ Kd.R k33 33 w' w.heap.size (fun _ => True) v0_ r1 ∧ Below w.heap.size w w' := by
 have hu25 := Try.underlying25
 have HB := zA (Below.refl w.heap.size w)
 have H := h
 unfold impl_MinimalSum.f at H
 clear h
 replace H := Option.bind_eq_some_iff.mp H
 obtain ⟨t241, A20, H⟩ := H
 replace H : (if t241 = true then ((impl_Table_minimal.f k a0_0 a0_1).bind fun t242 => (some (t242, true))) else (some (([] : List (S33)), false))) = some (r1, r2) := H
 have A2 := zA A20
 clear A20
 by_cases c3 : t241 = true
 ·subst c3
  have H1 : ((impl_Table_minimal.f k a0_0 a0_1).bind fun t242 => (some (t242, true))) = some (r1, r2) := by rw [if_pos rfl] at H; exact H
  clear H
  have H := H1
  clear H1
  replace H := Option.bind_eq_some_iff.mp H
  obtain ⟨t242, A40, H⟩ := H
  replace H : (some (t242, true)) = some (r1, r2) := H
  have A4 := zA A40
  clear A40
  simp only [Option.some.injEq, Prod.mk.injEq] at H
  obtain ⟨rfl, rfl⟩ := H
  go_enter Try.func6, Try.ntmps6
  go_wp2_with (first | ((with_reducible refine gate_dst (N := 1) rfl ?_); refine box_event ?hg (N := 1) ?hd (cs := #[.int .i64 a0_0, .int .i64 a0_1]) (t := 25) ?hr ?_; (case hd => rfl); (case hg => rfl); (case hr => exact zH); intro gb240 hg w5 hbox hb; have BK240 := zA (hbox); have GW240 := zg HB hg; have GE240 := zg HB hg; replace HB := zA (below_step (zB HB) hb); clear hb hbox hg; have hcz6_0 := zc0 BK240; have hcz6_1 := zc1 BK240; have hfz6_0 := blk_frozen BK240.out 0; have hfz6_1 := blk_frozen BK240.out 1) | ((with_reducible refine gate_callee (f := 34) rfl ?_); refine goesL_ (some 5) rfl rfl Try.func34 (by kernel_rfl) rfl #[.agg #[.int .i64 a0_0, .int .i64 a0_1], .int .i64 4] rfl zM ?_; (with_reducible refine (impl_isSmall.calls a0_0 a0_1 4 true _ A2.out).mono ?_); rintro e w7 ⟨rfl, hb⟩; refine ⟨_, rfl, ?_⟩; replace BK240 := zb BK240 hb; replace HB := zA (below_step (zB1 HB GE240) hb); (try clear hb); (try clear hb2); (try clear hk); (try clear hi); have hcz8_0 := zc0 BK240; have hcz8_1 := zc1 BK240; have hfz8_0 := blk_frozen BK240.out 0; have hfz8_1 := blk_frozen BK240.out 1) | ((with_reducible refine gate_callee (f := 35) rfl ?_); refine goesL_ (some 8) rfl rfl Try.func35 (by kernel_rfl) rfl #[.agg #[.int .i64 a0_0, .int .i64 a0_1]] rfl zM ?_; (with_reducible refine (impl_Table_minimal.calls k a0_0 a0_1 t242 _ A4.out).mono ?_); rintro e w9 ⟨v243, rfl, ho0, hb⟩; refine ⟨_, rfl, ?_⟩; have HO244 := zA (Kd.R_lower ho0 (below_size (zB1 HB GE240))); replace BK240 := zb BK240 hb; replace HB := zA (below_step (zB1 HB GE240) hb); (try clear hb); (try clear hb2); (try clear hk); (try clear hi); (try clear ho0)))
  go_ret2
  exact ⟨_, zE, by (with_reducible repeat (first | apply Kd.R_alloc | apply Kd.R_drewN | apply Kd.R_drew)); exact HO244.out, zB1 HB GE240⟩
 ·replace c3 := Bool.eq_false_iff.mpr c3
  subst c3
  have H1 : (some (([] : List (S33)), false)) = some (r1, r2) := by rw [if_neg (show ¬ (false = true) by decide)] at H; exact H
  clear H
  have H := H1
  clear H1
  simp only [Option.some.injEq, Prod.mk.injEq] at H
  obtain ⟨rfl, rfl⟩ := H
  go_enter Try.func6, Try.ntmps6
  go_wp2_with (first | ((with_reducible refine gate_dst (N := 1) rfl ?_); refine box_event ?hg (N := 1) ?hd (cs := #[.int .i64 a0_0, .int .i64 a0_1]) (t := 25) ?hr ?_; (case hd => rfl); (case hg => rfl); (case hr => exact zH); intro gb240 hg w10 hbox hb; have BK240 := zA (hbox); have GW240 := zg HB hg; have GE240 := zg HB hg; replace HB := zA (below_step (zB HB) hb); clear hb hbox hg; have hcz11_0 := zc0 BK240; have hcz11_1 := zc1 BK240; have hfz11_0 := blk_frozen BK240.out 0; have hfz11_1 := blk_frozen BK240.out 1) | ((with_reducible refine gate_callee (f := 34) rfl ?_); refine goesL_ (some 5) rfl rfl Try.func34 (by kernel_rfl) rfl #[.agg #[.int .i64 a0_0, .int .i64 a0_1], .int .i64 4] rfl zM ?_; (with_reducible refine (impl_isSmall.calls a0_0 a0_1 4 false _ A2.out).mono ?_); rintro e w12 ⟨rfl, hb⟩; refine ⟨_, rfl, ?_⟩; replace BK240 := zb BK240 hb; replace HB := zA (below_step (zB1 HB GE240) hb); (try clear hb); (try clear hb2); (try clear hk); (try clear hi)))
  go_ret2
  exact ⟨_, zE, by first | exact Kd.R_nil _ _ _ _ _ | exact Kd.N_nil _ _ _ _ _ | exact Kd.V_nil _ _ _ _ _ | exact Kd.Q_nil _ _ _ _ _ | exact Kd.S_nil _ _ _ _ _, zB1 HB GE240⟩

/-! ### spec_MinimalSum: function 7 -/
mutual
def spec_MinimalSum.j0 : Nat → Bool → Int → Int → Option ((List (S33)) × Bool)
 | 0, _, _, _ => none
 | k + 1, x15, x286000, x286001 => if x15 = true then (some ((([] : List (S33))), false)) else ((spec_l6Primes.f k x286000 x286001).bind fun t290 => (spec_MinimalSum.l0 k t290 0 x286000 x286001))
def spec_MinimalSum.l0 : Nat → List (S33) → Int → Int → Int → Option ((List (S33)) × Bool)
 | 0, _, _, _, _ => none
 | k + 1, x4, x5, x286000, x286001 => if x5 ≤ 8 then ((spec_l6Cover.f k x286000 x286001 x4 0 x286001 x5).bind fun bt293 => (if bt293.2 = true then (some (bt293.1, true)) else (spec_MinimalSum.l0 k x4 (wrap64 (x5 + 1)) x286000 x286001))) else (some ((([] : List (S33))), false))
end
def spec_MinimalSum.f (k : Nat) (a0_0 : Int) (a0_1 : Int) : Option ((List (S33)) × Bool) := (spec_IsTable.f a0_0 a0_1).bind fun t286 => (if t286 = true then (spec_MinimalSum.j0 k (decide (a0_0 > 4)) a0_0 a0_1) else (spec_MinimalSum.j0 k true a0_0 a0_1))
theorem spec_MinimalSum.mono_l : ∀ k, (∀ y0 y1 y2, LeO (spec_MinimalSum.j0 k y0 y1 y2) (spec_MinimalSum.j0 (k + 1) y0 y1 y2)) ∧ (∀ y0 y1 y2 y3, LeO (spec_MinimalSum.l0 k y0 y1 y2 y3) (spec_MinimalSum.l0 (k + 1) y0 y1 y2 y3))
 | 0 => ⟨fun _ _ _ r h => by simp [spec_MinimalSum.j0] at h, fun _ _ _ _ r h => by simp [spec_MinimalSum.l0] at h⟩
 | k + 1 => by
  obtain ⟨ih0, ih1⟩ := spec_MinimalSum.mono_l k
  refine ⟨?_, ?_⟩
  ·intro y0 y1 y2
   unfold spec_MinimalSum.j0
   repeat' first
   | (with_reducible exact ih0 _ _ _)
   | (with_reducible exact ih1 _ _ _ _)
   | (with_reducible exact spec_l6Cover.mono _ _ _ _ _ _ _)
   | (with_reducible exact spec_l6Primes.mono _ _ _)
   | (with_reducible exact LeO.refl _)
   | (with_reducible exact LeO.none _)
   | (with_reducible refine LeO.ite ?_ ?_)
   | (with_reducible refine LeO.bind ?_ (fun _ => ?_))
   | exact ih0 _ _ _
   | exact ih1 _ _ _ _
   | exact spec_l6Cover.mono _ _ _ _ _ _ _
   | exact spec_l6Primes.mono _ _ _
   | exact LeO.none _
   | refine LeO.ite ?_ ?_
   | refine LeO.bind ?_ (fun _ => ?_)
  ·intro y0 y1 y2 y3
   unfold spec_MinimalSum.l0
   repeat' first
   | (with_reducible exact ih0 _ _ _)
   | (with_reducible exact ih1 _ _ _ _)
   | (with_reducible exact spec_l6Cover.mono _ _ _ _ _ _ _)
   | (with_reducible exact spec_l6Primes.mono _ _ _)
   | (with_reducible exact LeO.refl _)
   | (with_reducible exact LeO.none _)
   | (with_reducible refine LeO.ite ?_ ?_)
   | (with_reducible refine LeO.bind ?_ (fun _ => ?_))
   | exact ih0 _ _ _
   | exact ih1 _ _ _ _
   | exact spec_l6Cover.mono _ _ _ _ _ _ _
   | exact spec_l6Primes.mono _ _ _
   | exact LeO.none _
   | refine LeO.ite ?_ ?_
   | refine LeO.bind ?_ (fun _ => ?_)
theorem spec_MinimalSum.mono : ∀ a0 a1 k, LeO (spec_MinimalSum.f k a0 a1) (spec_MinimalSum.f (k + 1) a0 a1) := by
 intro a0 a1 k
 obtain ⟨ih0, ih1⟩ := spec_MinimalSum.mono_l k
 unfold spec_MinimalSum.f
 repeat' first
   | (with_reducible exact ih0 _ _ _)
   | (with_reducible exact ih1 _ _ _ _)
   | (with_reducible exact spec_l6Cover.mono _ _ _ _ _ _ _)
   | (with_reducible exact spec_l6Primes.mono _ _ _)
   | (with_reducible exact LeO.refl _)
   | (with_reducible exact LeO.none _)
   | (with_reducible refine LeO.ite ?_ ?_)
   | (with_reducible refine LeO.bind ?_ (fun _ => ?_))
   | exact ih0 _ _ _
   | exact ih1 _ _ _ _
   | exact spec_l6Cover.mono _ _ _ _ _ _ _
   | exact spec_l6Primes.mono _ _ _
   | exact LeO.none _
   | refine LeO.ite ?_ ?_
   | refine LeO.bind ?_ (fun _ => ?_)
set_option maxHeartbeats 8000000 in
set_option maxRecDepth 100000 in
theorem spec_MinimalSum.calls (k : Nat) (a0_0 : Int) (a0_1 : Int) (r1 : List (S33)) (r2 : Bool) (w : World) (h : spec_MinimalSum.f k a0_0 a0_1 = some (r1, r2)) :
  Calls Try.prog 7 #[.agg #[.int .i64 a0_0, .int .i64 a0_1]] w fun e w' => ∃ v0_ : Value, e = .returned (.tuple #[v0_, .bool r2]) ∧ Kd.R k33 33 w' w.heap.size (fun _ => True) v0_ r1 ∧ Below w.heap.size w w' := by
 have hu25 := Try.underlying25
 have HB := zA (Below.refl w.heap.size w)
 have H := h
 unfold spec_MinimalSum.f at H
 clear h
 have HC2 := zA H
 clear H
 go_enter Try.func7, Try.ntmps7
 go_upto_region 1 with (first | ((with_reducible refine gate_dst (N := 1) rfl ?_); refine box_event ?hg (N := 1) ?hd (cs := #[.int .i64 a0_0, .int .i64 a0_1]) (t := 25) ?hr ?_; (case hd => rfl); (case hg => rfl); (case hr => exact zH); intro gb285 hg w3 hbox hb; have BK285 := zA (hbox); have GW285 := zg HB hg; have GE285 := zg HB hg; replace HB := zA (below_step (zB HB) hb); clear hb hbox hg))
 (try simp only [Act.put, List.setIfInBounds_toArray, List.set_cons_zero, List.set_cons_succ])
 go_cut [15] (fun v15 wc => ∃ (kq : Nat) (x15_1 : Bool), v15 = .bool x15_1 ∧ Aside0 (spec_MinimalSum.j0 kq x15_1 a0_0 a0_1 = some (r1, r2)) ∧ Aside0 (kq ≤ k) ∧ Aside0 (wc.heap[gb285]? = some (.cells #[.int .i64 a0_0, .int .i64 a0_1] 25 (0, 0))) ∧ Aside0 (Below w.heap.size w wc))
 case first =>
  have H := HC2.out
  clear HC2
  replace H := Option.bind_eq_some_iff.mp H
  obtain ⟨t286, A40, H⟩ := H
  replace H : (if t286 = true then (spec_MinimalSum.j0 k (decide (a0_0 > 4)) a0_0 a0_1) else (spec_MinimalSum.j0 k true a0_0 a0_1)) = some (r1, r2) := H
  have A4 := zA A40
  clear A40
  by_cases c5 : t286 = true
  ·subst c5
   have H1 : (spec_MinimalSum.j0 k (decide (a0_0 > 4)) a0_0 a0_1) = some (r1, r2) := by rw [if_pos rfl] at H; exact H
   clear H
   have H := H1
   clear H1
   have H' := zA H
   clear H
   have hcz6_0 := zc0 BK285
   have hcz6_1 := zc1 BK285
   have hfz6_0 := blk_frozen BK285.out 0
   have hfz6_1 := blk_frozen BK285.out 1
   go_wp2_with (first | ((with_reducible refine gate_callee (f := 36) rfl ?_); refine goesL_ (some 9) rfl rfl Try.func36 (by kernel_rfl) rfl #[.agg #[.int .i64 a0_0, .int .i64 a0_1]] rfl zM ?_; (with_reducible refine (spec_IsTable.calls a0_0 a0_1 true _ A4.out).mono ?_); rintro e w7 ⟨rfl, hb⟩; refine ⟨_, rfl, ?_⟩; replace BK285 := zb BK285 hb; replace HB := zA (below_step (zB1 HB GE285) hb); (try clear hb); (try clear hb2); (try clear hk); (try clear hi); have hcz8_0 := zc0 BK285; have hcz8_1 := zc1 BK285; have hfz8_0 := blk_frozen BK285.out 0; have hfz8_1 := blk_frozen BK285.out 1))
   go_meet
   case rel => exact ⟨_, (decide (a0_0 > 4)), zS, H', ⟨by first | omega | exact Nat.le_refl _⟩, ⟨zD BK285⟩, ⟨zB1 HB GE285⟩⟩
  ·replace c5 := Bool.eq_false_iff.mpr c5
   subst c5
   have H1 : (spec_MinimalSum.j0 k true a0_0 a0_1) = some (r1, r2) := by rw [if_neg (show ¬ (false = true) by decide)] at H; exact H
   clear H
   have H := H1
   clear H1
   have H' := zA H
   clear H
   have hcz9_0 := zc0 BK285
   have hcz9_1 := zc1 BK285
   have hfz9_0 := blk_frozen BK285.out 0
   have hfz9_1 := blk_frozen BK285.out 1
   go_wp2_with (first | ((with_reducible refine gate_callee (f := 36) rfl ?_); refine goesL_ (some 9) rfl rfl Try.func36 (by kernel_rfl) rfl #[.agg #[.int .i64 a0_0, .int .i64 a0_1]] rfl zM ?_; (with_reducible refine (spec_IsTable.calls a0_0 a0_1 false _ A4.out).mono ?_); rintro e w10 ⟨rfl, hb⟩; refine ⟨_, rfl, ?_⟩; replace BK285 := zb BK285 hb; replace HB := zA (below_step (zB1 HB GE285) hb); (try clear hb); (try clear hb2); (try clear hk); (try clear hi)))
   go_meet
   case rel => exact ⟨_, (true), zS, H', ⟨by first | omega | exact Nat.le_refl _⟩, ⟨zD BK285⟩, ⟨zB1 HB GE285⟩⟩
 case rest =>
  clear HC2
  obtain ⟨kq, x15_1, rfl, HA, HJ1, BK285, HB⟩ := hcut
  cases kq with
  | zero => exact absurd HA.out (by simp [spec_MinimalSum.j0])
  | succ kj1 =>
   have H := HA.out
   clear HA
   simp only [spec_MinimalSum.j0] at H
   by_cases c11 : x15_1 = true
   ·subst c11
    have H1 : (some ((([] : List (S33))), false)) = some (r1, r2) := by rw [if_pos rfl] at H; exact H
    clear H
    have H := H1
    clear H1
    obtain ⟨y287, hy287⟩ : ∃ y_ : List (S33), y_ = (([] : List (S33))) := ⟨_, rfl⟩
    replace H : (some (y287, false)) = some (r1, r2) := by first | (rw [hy287]; with_reducible exact H) | (have H2_ := (Option.bind_some _ _).symm.trans H; rw [hy287]; with_reducible exact H2_) | (have H2_ := (Option.bind_some _ _).symm.trans H; with_reducible exact H2_) | with_reducible exact H | (rw [hy287]; exact H) | exact H
    have Ny287 := zA hy287
    clear hy287
    simp only [Option.some.injEq, Prod.mk.injEq] at H
    obtain ⟨rfl, rfl⟩ := H
    go_wp2_with (first | ((with_reducible refine gate_dst (N := 16) rfl ?_); refine Kd.R_lit k33 _ 33 ?hg (N := 16) ?hd (xs := ([] : List (S33))) (inner := []) (ok := fun _ => True) (okp := fun _ => True) ?hr ?hp (fun _ hk => hk) trivial (Below.refl _ _) (Nat.le_refl _) (by simp) ?_; (case hd => rfl); (case hg => rfl); (case hr => exact zH); (case hp => exact (Reps.none _ _)); intro v288 w12 ho13 hb hg_ hnew_; clear hg_ hnew_; (first | rw [← Ny287.out] at ho13 | (simp only [Int.reduceToNat] at ho13; rw [← Ny287.out] at ho13)); have HO289 := zA (Kd.R_lower ho13 (below_size (zB1 HB GE285))); replace BK285 := zb BK285 hb; replace HB := zA (below_step (zB1 HB GE285) hb); clear hb ho13))
    go_ret2
    exact ⟨_, zE, by (with_reducible repeat (first | apply Kd.R_alloc | apply Kd.R_drewN | apply Kd.R_drew)); exact HO289.out, zB1 HB GE285⟩
   ·replace c11 := Bool.eq_false_iff.mpr c11
    subst c11
    have H1 : ((spec_l6Primes.f kj1 a0_0 a0_1).bind fun t290 => (spec_MinimalSum.l0 kj1 t290 0 a0_0 a0_1)) = some (r1, r2) := by rw [if_neg (show ¬ (false = true) by decide)] at H; exact H
    clear H
    have H := H1
    clear H1
    replace H := Option.bind_eq_some_iff.mp H
    obtain ⟨t290, A140, H⟩ := H
    replace H : (spec_MinimalSum.l0 kj1 t290 0 a0_0 a0_1) = some (r1, r2) := H
    have A14 := zA A140
    clear A140
    have H' := zA H
    clear H
    have hcz15_0 := zc0 BK285
    have hcz15_1 := zc1 BK285
    have hfz15_0 := blk_frozen BK285.out 0
    have hfz15_1 := blk_frozen BK285.out 1
    go_wp2_with (first | ((with_reducible refine gate_callee (f := 37) rfl ?_); refine goesL_ (some 18) rfl rfl Try.func37 (by kernel_rfl) rfl #[.agg #[.int .i64 a0_0, .int .i64 a0_1]] rfl zM ?_; (with_reducible refine (spec_l6Primes.calls kj1 a0_0 a0_1 t290 _ A14.out).mono ?_); rintro e w16 ⟨v291, rfl, ho0, hb⟩; refine ⟨_, rfl, ?_⟩; have HO292 := zA (Kd.R_lower ho0 (below_size (zB1 HB GE285))); replace BK285 := zb BK285 hb; replace HB := zA (below_step (zB1 HB GE285) hb); (try clear hb); (try clear hb2); (try clear hk); (try clear hi); (try clear ho0)))
    go_loopg [5] kj1 (fun kq v5 w' => ∃ (x5_2 : Int), v5 = .int .i64 x5_2 ∧ Aside0 (spec_MinimalSum.l0 kq t290 x5_2 a0_0 a0_1 = some (r1, r2)) ∧ Aside0 (kq ≤ kj1) ∧ Aside0 (Kd.R k33 33 w' w.heap.size (fun _ => True) v291 t290) ∧ Aside0 (w'.heap[gb285]? = some (.cells #[.int .i64 a0_0, .int .i64 a0_1] 25 (0, 0))) ∧ Aside0 (Below w.heap.size w w'))
    case atStart => exact ⟨(0), zS, H', ⟨Nat.le_refl _⟩, ⟨zR HO292⟩, ⟨zD BK285⟩, ⟨zB1 HB GE285⟩⟩
    case round =>
     clear H'
     try clear c11
     try clear hcz15_0
     try clear hcz15_1
     try clear hfz15_0
     try clear hfz15_1
     obtain ⟨x5_2, rfl, HA, HK2, HO_4, BK285, HB⟩ := hrel
     cases gk with
     | zero => exact absurd HA.out (by simp [spec_MinimalSum.l0])
     | succ k2 =>
      have H := HA.out
      clear HA
      simp only [spec_MinimalSum.l0] at H
      by_cases c17 : x5_2 ≤ 8
      ·rw [if_pos c17] at H
       have c17b0 : decide (x5_2 ≤ 8) = true := decide_eq_true c17
       clear c17
       replace H := Option.bind_eq_some_iff.mp H
       obtain ⟨⟨t293, t296⟩, A180, H⟩ := H
       replace H : (if t296 = true then (some (t293, true)) else (spec_MinimalSum.l0 k2 t290 (wrap64 (x5_2 + 1)) a0_0 a0_1)) = some (r1, r2) := H
       have A18 := zA A180
       clear A180
       by_cases c19 : t296 = true
       ·subst c19
        have H1 : (some (t293, true)) = some (r1, r2) := by rw [if_pos rfl] at H; exact H
        clear H
        have H := H1
        clear H1
        simp only [Option.some.injEq, Prod.mk.injEq] at H
        obtain ⟨rfl, rfl⟩ := H
        have hcz20_0 := zc0 BK285
        have hcz20_1 := zc1 BK285
        have hfz20_0 := blk_frozen BK285.out 0
        have hfz20_1 := blk_frozen BK285.out 1
        obtain ⟨Ao21, co21, eo21⟩ := Kd.R_slice HO_4.out
        subst eo21
        go_wp2_with (first | ((with_reducible refine gate_callee (f := 38) rfl ?_); refine goesL_ (some 29) rfl rfl Try.func38 (by kernel_rfl) rfl #[.agg #[.int .i64 a0_0, .int .i64 a0_1], .slice Ao21 t290.length co21, .int .i64 0, .int .i64 a0_1, .int .i64 x5_2] rfl zM ?_; (with_reducible refine (spec_l6Cover.calls k2 a0_0 a0_1 _ _ t290 0 a0_1 x5_2 t293 true _ ?side1 ?side2 A18.out).mono ?_); (case side1 => exact zC (Kd.R_reads' HO_4.out).2.2); (case side2 => exact (Kd.R_reads' HO_4.out).2.1); rintro e w22 ⟨v294, rfl, ho0, hb⟩; refine ⟨_, rfl, ?_⟩; have HO295 := zA (Kd.R_lower (Kd.R_new' ho0 (Kd.R_lt (zR HO_4))) (below_size (zB1 HB GE285))); replace HO_4 := zA (Kd.R_elder' (zR HO_4) (Kd.R_base ho0) hb); replace BK285 := zb BK285 hb; replace HB := zA (below_step (zB1 HB GE285) hb); (try clear hb); (try clear hb2); (try clear hk); (try clear hi); (try clear ho0)))
        go_ret2
        exact ⟨_, zE, by (with_reducible repeat (first | apply Kd.R_alloc | apply Kd.R_drewN | apply Kd.R_drew)); exact Kd.R_mono HO295.out (fun _ hk => trivial), zB1 HB GE285⟩
       ·replace c19 := Bool.eq_false_iff.mpr c19
        subst c19
        have H1 : (spec_MinimalSum.l0 k2 t290 (wrap64 (x5_2 + 1)) a0_0 a0_1) = some (r1, r2) := by rw [if_neg (show ¬ (false = true) by decide)] at H; exact H
        clear H
        have H := H1
        clear H1
        have H' := zA H
        clear H
        have hcz23_0 := zc0 BK285
        have hcz23_1 := zc1 BK285
        have hfz23_0 := blk_frozen BK285.out 0
        have hfz23_1 := blk_frozen BK285.out 1
        obtain ⟨Ao24, co24, eo24⟩ := Kd.R_slice HO_4.out
        subst eo24
        go_wp2_with (first | ((with_reducible refine gate_callee (f := 38) rfl ?_); refine goesL_ (some 29) rfl rfl Try.func38 (by kernel_rfl) rfl #[.agg #[.int .i64 a0_0, .int .i64 a0_1], .slice Ao24 t290.length co24, .int .i64 0, .int .i64 a0_1, .int .i64 x5_2] rfl zM ?_; (with_reducible refine (spec_l6Cover.calls k2 a0_0 a0_1 _ _ t290 0 a0_1 x5_2 t293 false _ ?side1 ?side2 A18.out).mono ?_); (case side1 => exact zC (Kd.R_reads' HO_4.out).2.2); (case side2 => exact (Kd.R_reads' HO_4.out).2.1); rintro e w25 ⟨v294, rfl, ho0, hb⟩; refine ⟨_, rfl, ?_⟩; have HO295 := zA (Kd.R_lower (Kd.R_new' ho0 (Kd.R_lt (zR HO_4))) (below_size (zB1 HB GE285))); replace HO_4 := zA (Kd.R_elder' (zR HO_4) (Kd.R_base ho0) hb); replace BK285 := zb BK285 hb; replace HB := zA (below_step (zB1 HB GE285) hb); (try clear hb); (try clear hb2); (try clear hk); (try clear hi); (try clear ho0)))
        go_roundg k2
        case measure => have := HJ1.out; have := HK2.out; omega
        case rel => exact ⟨(wrap64 (x5_2 + 1)), zS, H', ⟨by have := HJ1.out; have := HK2.out; omega⟩, ⟨by (with_reducible repeat (first | apply Kd.R_alloc | apply Kd.R_drewN | apply Kd.R_drew)); exact Kd.R_mono HO_4.out (fun _ hk => trivial)⟩, ⟨zD BK285⟩, ⟨zB1 HB GE285⟩⟩
      ·rw [if_neg c17] at H
       have c17b0 : decide (x5_2 ≤ 8) = false := decide_eq_false c17
       clear c17
       obtain ⟨y297, hy297⟩ : ∃ y_ : List (S33), y_ = (([] : List (S33))) := ⟨_, rfl⟩
       replace H : (some (y297, false)) = some (r1, r2) := by first | (rw [hy297]; with_reducible exact H) | (have H2_ := (Option.bind_some _ _).symm.trans H; rw [hy297]; with_reducible exact H2_) | (have H2_ := (Option.bind_some _ _).symm.trans H; with_reducible exact H2_) | with_reducible exact H | (rw [hy297]; exact H) | exact H
       have Ny297 := zA hy297
       clear hy297
       simp only [Option.some.injEq, Prod.mk.injEq] at H
       obtain ⟨rfl, rfl⟩ := H
       go_wp2_with (first | ((with_reducible refine gate_dst (N := 34) rfl ?_); refine Kd.R_lit k33 _ 33 ?hg (N := 34) ?hd (xs := ([] : List (S33))) (inner := []) (ok := fun _ => True) (okp := fun _ => True) ?hr ?hp (fun _ hk => hk) trivial (Below.refl _ _) (Nat.le_refl _) (by simp) ?_; (case hd => rfl); (case hg => rfl); (case hr => exact zH); (case hp => exact (Reps.none _ _)); intro v298 w26 ho27 hb hg_ hnew_; clear hg_ hnew_; (first | rw [← Ny297.out] at ho27 | (simp only [Int.reduceToNat] at ho27; rw [← Ny297.out] at ho27)); have HO299 := zA (Kd.R_lower (Kd.R_new' ho27 (Kd.R_lt (zR HO_4))) (below_size (zB1 HB GE285))); replace HO_4 := zA (Kd.R_elder' (zR HO_4) (Kd.R_base ho27) hb); replace BK285 := zb BK285 hb; replace HB := zA (below_step (zB1 HB GE285) hb); clear hb ho27))
       go_ret2
       exact ⟨_, zE, by (with_reducible repeat (first | apply Kd.R_alloc | apply Kd.R_drewN | apply Kd.R_drew)); exact Kd.R_mono HO299.out (fun _ hk => trivial), zB1 HB GE285⟩

/-! ### impl_PrimesOf: function 9 -/
def impl_PrimesOf.f (k : Nat) (a0_0 : Int) (a0_1 : Int) : Option ((List (S33)) × Bool) := (impl_IsTable.f a0_0 a0_1).bind fun t303 => (if t303 = true then ((impl_Table_primes.f k a0_0 a0_1).bind fun t304 => (some (t304, true))) else (some (([] : List (S33)), false)))
theorem impl_PrimesOf.mono : ∀ a0 a1 k, LeO (impl_PrimesOf.f k a0 a1) (impl_PrimesOf.f (k + 1) a0 a1) := by
 intro a0 a1 k
 unfold impl_PrimesOf.f
 repeat' first
   | (with_reducible exact impl_Table_primes.mono _ _ _)
   | (with_reducible exact LeO.refl _)
   | (with_reducible exact LeO.none _)
   | (with_reducible refine LeO.ite ?_ ?_)
   | (with_reducible refine LeO.bind ?_ (fun _ => ?_))
   | exact impl_Table_primes.mono _ _ _
   | exact LeO.none _
   | refine LeO.ite ?_ ?_
   | refine LeO.bind ?_ (fun _ => ?_)
set_option maxHeartbeats 8000000 in
set_option maxRecDepth 100000 in
theorem impl_PrimesOf.calls (k : Nat) (a0_0 : Int) (a0_1 : Int) (r1 : List (S33)) (r2 : Bool) (w : World) (h : impl_PrimesOf.f k a0_0 a0_1 = some (r1, r2)) :
  Calls Try.prog 9 #[.agg #[.int .i64 a0_0, .int .i64 a0_1]] w fun e w' => ∃ v0_ : Value, e = .returned (.tuple #[v0_, .bool r2]) ∧ Kd.R k33 33 w' w.heap.size (fun _ => True) v0_ r1 ∧ Below w.heap.size w w' := by
 have hu25 := Try.underlying25
 have HB := zA (Below.refl w.heap.size w)
 have H := h
 unfold impl_PrimesOf.f at H
 clear h
 replace H := Option.bind_eq_some_iff.mp H
 obtain ⟨t303, A20, H⟩ := H
 replace H : (if t303 = true then ((impl_Table_primes.f k a0_0 a0_1).bind fun t304 => (some (t304, true))) else (some (([] : List (S33)), false))) = some (r1, r2) := H
 have A2 := zA A20
 clear A20
 by_cases c3 : t303 = true
 ·subst c3
  have H1 : ((impl_Table_primes.f k a0_0 a0_1).bind fun t304 => (some (t304, true))) = some (r1, r2) := by rw [if_pos rfl] at H; exact H
  clear H
  have H := H1
  clear H1
  replace H := Option.bind_eq_some_iff.mp H
  obtain ⟨t304, A40, H⟩ := H
  replace H : (some (t304, true)) = some (r1, r2) := H
  have A4 := zA A40
  clear A40
  simp only [Option.some.injEq, Prod.mk.injEq] at H
  obtain ⟨rfl, rfl⟩ := H
  go_enter Try.func9, Try.ntmps9
  go_wp2_with (first | ((with_reducible refine gate_dst (N := 1) rfl ?_); refine box_event ?hg (N := 1) ?hd (cs := #[.int .i64 a0_0, .int .i64 a0_1]) (t := 25) ?hr ?_; (case hd => rfl); (case hg => rfl); (case hr => exact zH); intro gb302 hg w5 hbox hb; have BK302 := zA (hbox); have GW302 := zg HB hg; have GE302 := zg HB hg; replace HB := zA (below_step (zB HB) hb); clear hb hbox hg; have hcz6_0 := zc0 BK302; have hcz6_1 := zc1 BK302; have hfz6_0 := blk_frozen BK302.out 0; have hfz6_1 := blk_frozen BK302.out 1) | ((with_reducible refine gate_callee (f := 39) rfl ?_); refine goesL_ (some 5) rfl rfl Try.func39 (by kernel_rfl) rfl #[.agg #[.int .i64 a0_0, .int .i64 a0_1]] rfl zM ?_; (with_reducible refine (impl_IsTable.calls a0_0 a0_1 true _ A2.out).mono ?_); rintro e w7 ⟨rfl, hb⟩; refine ⟨_, rfl, ?_⟩; replace BK302 := zb BK302 hb; replace HB := zA (below_step (zB1 HB GE302) hb); (try clear hb); (try clear hb2); (try clear hk); (try clear hi); have hcz8_0 := zc0 BK302; have hcz8_1 := zc1 BK302; have hfz8_0 := blk_frozen BK302.out 0; have hfz8_1 := blk_frozen BK302.out 1) | ((with_reducible refine gate_callee (f := 40) rfl ?_); refine goesL_ (some 8) rfl rfl Try.func40 (by kernel_rfl) rfl #[.agg #[.int .i64 a0_0, .int .i64 a0_1]] rfl zM ?_; (with_reducible refine (impl_Table_primes.calls k a0_0 a0_1 t304 _ A4.out).mono ?_); rintro e w9 ⟨v305, rfl, ho0, hb⟩; refine ⟨_, rfl, ?_⟩; have HO306 := zA (Kd.R_lower ho0 (below_size (zB1 HB GE302))); replace BK302 := zb BK302 hb; replace HB := zA (below_step (zB1 HB GE302) hb); (try clear hb); (try clear hb2); (try clear hk); (try clear hi); (try clear ho0)))
  go_ret2
  exact ⟨_, zE, by (with_reducible repeat (first | apply Kd.R_alloc | apply Kd.R_drewN | apply Kd.R_drew)); exact HO306.out, zB1 HB GE302⟩
 ·replace c3 := Bool.eq_false_iff.mpr c3
  subst c3
  have H1 : (some (([] : List (S33)), false)) = some (r1, r2) := by rw [if_neg (show ¬ (false = true) by decide)] at H; exact H
  clear H
  have H := H1
  clear H1
  simp only [Option.some.injEq, Prod.mk.injEq] at H
  obtain ⟨rfl, rfl⟩ := H
  go_enter Try.func9, Try.ntmps9
  go_wp2_with (first | ((with_reducible refine gate_dst (N := 1) rfl ?_); refine box_event ?hg (N := 1) ?hd (cs := #[.int .i64 a0_0, .int .i64 a0_1]) (t := 25) ?hr ?_; (case hd => rfl); (case hg => rfl); (case hr => exact zH); intro gb302 hg w10 hbox hb; have BK302 := zA (hbox); have GW302 := zg HB hg; have GE302 := zg HB hg; replace HB := zA (below_step (zB HB) hb); clear hb hbox hg; have hcz11_0 := zc0 BK302; have hcz11_1 := zc1 BK302; have hfz11_0 := blk_frozen BK302.out 0; have hfz11_1 := blk_frozen BK302.out 1) | ((with_reducible refine gate_callee (f := 39) rfl ?_); refine goesL_ (some 5) rfl rfl Try.func39 (by kernel_rfl) rfl #[.agg #[.int .i64 a0_0, .int .i64 a0_1]] rfl zM ?_; (with_reducible refine (impl_IsTable.calls a0_0 a0_1 false _ A2.out).mono ?_); rintro e w12 ⟨rfl, hb⟩; refine ⟨_, rfl, ?_⟩; replace BK302 := zb BK302 hb; replace HB := zA (below_step (zB1 HB GE302) hb); (try clear hb); (try clear hb2); (try clear hk); (try clear hi)))
  go_ret2
  exact ⟨_, zE, by first | exact Kd.R_nil _ _ _ _ _ | exact Kd.N_nil _ _ _ _ _ | exact Kd.V_nil _ _ _ _ _ | exact Kd.Q_nil _ _ _ _ _ | exact Kd.S_nil _ _ _ _ _, zB1 HB GE302⟩

/-! ### spec_PrimesOf: function 10 -/
def spec_PrimesOf.f (k : Nat) (a0_0 : Int) (a0_1 : Int) : Option ((List (S33)) × Bool) := (spec_IsTable.f a0_0 a0_1).bind fun t308 => (if t308 = true then ((spec_l6Primes.f k a0_0 a0_1).bind fun t309 => (some (t309, true))) else (some ((([] : List (S33))), false)))
theorem spec_PrimesOf.mono : ∀ a0 a1 k, LeO (spec_PrimesOf.f k a0 a1) (spec_PrimesOf.f (k + 1) a0 a1) := by
 intro a0 a1 k
 unfold spec_PrimesOf.f
 repeat' first
   | (with_reducible exact spec_l6Primes.mono _ _ _)
   | (with_reducible exact LeO.refl _)
   | (with_reducible exact LeO.none _)
   | (with_reducible refine LeO.ite ?_ ?_)
   | (with_reducible refine LeO.bind ?_ (fun _ => ?_))
   | exact spec_l6Primes.mono _ _ _
   | exact LeO.none _
   | refine LeO.ite ?_ ?_
   | refine LeO.bind ?_ (fun _ => ?_)
set_option maxHeartbeats 8000000 in
set_option maxRecDepth 100000 in
theorem spec_PrimesOf.calls (k : Nat) (a0_0 : Int) (a0_1 : Int) (r1 : List (S33)) (r2 : Bool) (w : World) (h : spec_PrimesOf.f k a0_0 a0_1 = some (r1, r2)) :
  Calls Try.prog 10 #[.agg #[.int .i64 a0_0, .int .i64 a0_1]] w fun e w' => ∃ v0_ : Value, e = .returned (.tuple #[v0_, .bool r2]) ∧ Kd.R k33 33 w' w.heap.size (fun _ => True) v0_ r1 ∧ Below w.heap.size w w' := by
 have hu25 := Try.underlying25
 have HB := zA (Below.refl w.heap.size w)
 have H := h
 unfold spec_PrimesOf.f at H
 clear h
 replace H := Option.bind_eq_some_iff.mp H
 obtain ⟨t308, A20, H⟩ := H
 replace H : (if t308 = true then ((spec_l6Primes.f k a0_0 a0_1).bind fun t309 => (some (t309, true))) else (some ((([] : List (S33))), false))) = some (r1, r2) := H
 have A2 := zA A20
 clear A20
 by_cases c3 : t308 = true
 ·subst c3
  have H1 : ((spec_l6Primes.f k a0_0 a0_1).bind fun t309 => (some (t309, true))) = some (r1, r2) := by rw [if_pos rfl] at H; exact H
  clear H
  have H := H1
  clear H1
  replace H := Option.bind_eq_some_iff.mp H
  obtain ⟨t309, A40, H⟩ := H
  replace H : (some (t309, true)) = some (r1, r2) := H
  have A4 := zA A40
  clear A40
  simp only [Option.some.injEq, Prod.mk.injEq] at H
  obtain ⟨rfl, rfl⟩ := H
  go_enter Try.func10, Try.ntmps10
  go_wp2_with (first | ((with_reducible refine gate_dst (N := 1) rfl ?_); refine box_event ?hg (N := 1) ?hd (cs := #[.int .i64 a0_0, .int .i64 a0_1]) (t := 25) ?hr ?_; (case hd => rfl); (case hg => rfl); (case hr => exact zH); intro gb307 hg w5 hbox hb; have BK307 := zA (hbox); have GW307 := zg HB hg; have GE307 := zg HB hg; replace HB := zA (below_step (zB HB) hb); clear hb hbox hg; have hcz6_0 := zc0 BK307; have hcz6_1 := zc1 BK307; have hfz6_0 := blk_frozen BK307.out 0; have hfz6_1 := blk_frozen BK307.out 1) | ((with_reducible refine gate_callee (f := 36) rfl ?_); refine goesL_ (some 5) rfl rfl Try.func36 (by kernel_rfl) rfl #[.agg #[.int .i64 a0_0, .int .i64 a0_1]] rfl zM ?_; (with_reducible refine (spec_IsTable.calls a0_0 a0_1 true _ A2.out).mono ?_); rintro e w7 ⟨rfl, hb⟩; refine ⟨_, rfl, ?_⟩; replace BK307 := zb BK307 hb; replace HB := zA (below_step (zB1 HB GE307) hb); (try clear hb); (try clear hb2); (try clear hk); (try clear hi); have hcz8_0 := zc0 BK307; have hcz8_1 := zc1 BK307; have hfz8_0 := blk_frozen BK307.out 0; have hfz8_1 := blk_frozen BK307.out 1) | ((with_reducible refine gate_callee (f := 37) rfl ?_); refine goesL_ (some 9) rfl rfl Try.func37 (by kernel_rfl) rfl #[.agg #[.int .i64 a0_0, .int .i64 a0_1]] rfl zM ?_; (with_reducible refine (spec_l6Primes.calls k a0_0 a0_1 t309 _ A4.out).mono ?_); rintro e w9 ⟨v310, rfl, ho0, hb⟩; refine ⟨_, rfl, ?_⟩; have HO311 := zA (Kd.R_lower ho0 (below_size (zB1 HB GE307))); replace BK307 := zb BK307 hb; replace HB := zA (below_step (zB1 HB GE307) hb); (try clear hb); (try clear hb2); (try clear hk); (try clear hi); (try clear ho0)))
  go_ret2
  exact ⟨_, zE, by (with_reducible repeat (first | apply Kd.R_alloc | apply Kd.R_drewN | apply Kd.R_drew)); exact HO311.out, zB1 HB GE307⟩
 ·replace c3 := Bool.eq_false_iff.mpr c3
  subst c3
  have H1 : (some ((([] : List (S33))), false)) = some (r1, r2) := by rw [if_neg (show ¬ (false = true) by decide)] at H; exact H
  clear H
  have H := H1
  clear H1
  obtain ⟨y312, hy312⟩ : ∃ y_ : List (S33), y_ = (([] : List (S33))) := ⟨_, rfl⟩
  replace H : (some (y312, false)) = some (r1, r2) := by first | (rw [hy312]; with_reducible exact H) | (have H2_ := (Option.bind_some _ _).symm.trans H; rw [hy312]; with_reducible exact H2_) | (have H2_ := (Option.bind_some _ _).symm.trans H; with_reducible exact H2_) | with_reducible exact H | (rw [hy312]; exact H) | exact H
  have Ny312 := zA hy312
  clear hy312
  simp only [Option.some.injEq, Prod.mk.injEq] at H
  obtain ⟨rfl, rfl⟩ := H
  go_enter Try.func10, Try.ntmps10
  go_wp2_with (first | ((with_reducible refine gate_dst (N := 1) rfl ?_); refine box_event ?hg (N := 1) ?hd (cs := #[.int .i64 a0_0, .int .i64 a0_1]) (t := 25) ?hr ?_; (case hd => rfl); (case hg => rfl); (case hr => exact zH); intro gb307 hg w10 hbox hb; have BK307 := zA (hbox); have GW307 := zg HB hg; have GE307 := zg HB hg; replace HB := zA (below_step (zB HB) hb); clear hb hbox hg; have hcz11_0 := zc0 BK307; have hcz11_1 := zc1 BK307; have hfz11_0 := blk_frozen BK307.out 0; have hfz11_1 := blk_frozen BK307.out 1) | ((with_reducible refine gate_callee (f := 36) rfl ?_); refine goesL_ (some 5) rfl rfl Try.func36 (by kernel_rfl) rfl #[.agg #[.int .i64 a0_0, .int .i64 a0_1]] rfl zM ?_; (with_reducible refine (spec_IsTable.calls a0_0 a0_1 false _ A2.out).mono ?_); rintro e w12 ⟨rfl, hb⟩; refine ⟨_, rfl, ?_⟩; replace BK307 := zb BK307 hb; replace HB := zA (below_step (zB1 HB GE307) hb); (try clear hb); (try clear hb2); (try clear hk); (try clear hi)) | ((with_reducible refine gate_dst (N := 7) rfl ?_); refine Kd.R_lit k33 _ 33 ?hg (N := 7) ?hd (xs := ([] : List (S33))) (inner := []) (ok := fun _ => True) (okp := fun _ => True) ?hr ?hp (fun _ hk => hk) trivial (Below.refl _ _) (Nat.le_refl _) (by simp) ?_; (case hd => rfl); (case hg => rfl); (case hr => exact zH); (case hp => exact (Reps.none _ _)); intro v313 w13 ho14 hb hg_ hnew_; clear hg_ hnew_; (first | rw [← Ny312.out] at ho14 | (simp only [Int.reduceToNat] at ho14; rw [← Ny312.out] at ho14)); have HO314 := zA (Kd.R_lower ho14 (below_size (zB1 HB GE307))); replace BK307 := zb BK307 hb; replace HB := zA (below_step (zB1 HB GE307) hb); clear hb ho14))
  go_ret2
  exact ⟨_, zE, by (with_reducible repeat (first | apply Kd.R_alloc | apply Kd.R_drewN | apply Kd.R_drew)); exact HO314.out, zB1 HB GE307⟩

end Go.Proofs.Ytfiejicdlaknnaa.P
