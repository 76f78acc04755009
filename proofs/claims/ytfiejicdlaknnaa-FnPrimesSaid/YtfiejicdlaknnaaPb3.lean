/- The functions that this seat's laws reach, each as a plain Lean function, and the walk of each; written by a program over the kit's print. No conditions but those that stand in the theorems. -/
import Derived.Test.YtfiejicdlaknnaaK2
import Derived.Test.YtfiejicdlaknnaaPm1
import Derived.Test.YtfiejicdlaknnaaPv7
import Derived.Test.YtfiejicdlaknnaaK4
namespace Go.Proofs.Ytfiejicdlaknnaa.P
open Go.RowKit Go.Proofs.YtfiejicdlaknnaaW.PrintWords Go.Proofs.YtfiejicdlaknnaaW.PrintLast Go.Proofs.YtfiejicdlaknnaaW.PrintMore
attribute [local go_sem] max2_int min2_int max_two min_two max_three min_three max_four min_four   -- for this text's walks alone
set_option linter.unusedVariables false
set_option linter.unusedSimpArgs false

attribute [local go_sem] fld25_0 fld25_1
attribute [local go_sem high] eqA25
/-! ### impl_EssentialPrimes: function 11 -/
def impl_EssentialPrimes.l0 : Nat → List (S33) → List (S33) → List (S33) → Int → Int → Int → Int → Option ((List (S33)) × Bool)
 | 0, _, _, _, _, _, _, _ => none
 | k + 1, x4, x5, x14, x15, x16, x316000, x316001 => if x16 < x15 then (if 0 ≤ x16 then (if x16 < (x14.length : Int) then (if x16 ≤ (x4.length : Int) then ((impl_Term_41.f (x4.take (x16 : Int).toNat)).bind fun t326 => (if 0 ≤ (wrap64 (x16 + 1)) then (if (wrap64 (x16 + 1)) ≤ (x4.length : Int) then ((some (x4.drop ((wrap64 (x16 + 1)) : Int).toNat : List (S33))).bind fun y329 => (if t326.length + y329.length < 8796093022208 then ((impl_sumOf.f x316000 (t326 ++ y329)).bind fun bt336 => (if (!(bt336.1 == x316000) || (!(bt336.2 == x316001))) = true then (if x5.length < 8796093022208 then (impl_EssentialPrimes.l0 k x4 (x5 ++ [(⟨(rd_T33 x14 x16).f0, (rd_T33 x14 x16).f1⟩ : S33)]) x14 x15 (wrap64 (x16 + 1)) x316000 x316001) else (none)) else (impl_EssentialPrimes.l0 k x4 x5 x14 x15 (wrap64 (x16 + 1)) x316000 x316001))) else (none))) else (none)) else (none))) else (none)) else (none)) else (none)) else (some (x5, true))
def impl_EssentialPrimes.f (k : Nat) (a0_0 : Int) (a0_1 : Int) : Option ((List (S33)) × Bool) := (impl_IsTable.f a0_0 a0_1).bind fun t316 => (if t316 = true then ((impl_Table_primes.f k a0_0 a0_1).bind fun t317 => (impl_EssentialPrimes.l0 k t317 ([] : List (S33)) t317 (t317.length : Int) 0 a0_0 a0_1)) else (some (([] : List (S33)), false)))
theorem impl_EssentialPrimes.mono_l : ∀ k, (∀ y0 y1 y2 y3 y4 y5 y6, LeO (impl_EssentialPrimes.l0 k y0 y1 y2 y3 y4 y5 y6) (impl_EssentialPrimes.l0 (k + 1) y0 y1 y2 y3 y4 y5 y6))
 | 0 => fun _ _ _ _ _ _ _ r h => by simp [impl_EssentialPrimes.l0] at h
 | k + 1 => by
  have ih0 := impl_EssentialPrimes.mono_l k
  ·intro y0 y1 y2 y3 y4 y5 y6
   unfold impl_EssentialPrimes.l0
   repeat' first
   | (with_reducible exact ih0 _ _ _ _ _ _ _)
   | (with_reducible exact impl_Table_primes.mono _ _ _)
   | (with_reducible exact LeO.refl _)
   | (with_reducible exact LeO.none _)
   | (with_reducible refine LeO.ite ?_ ?_)
   | (with_reducible refine LeO.bind ?_ (fun _ => ?_))
   | exact ih0 _ _ _ _ _ _ _
   | exact impl_Table_primes.mono _ _ _
   | exact LeO.none _
   | refine LeO.ite ?_ ?_
   | refine LeO.bind ?_ (fun _ => ?_)
theorem impl_EssentialPrimes.mono : ∀ a0 a1 k, LeO (impl_EssentialPrimes.f k a0 a1) (impl_EssentialPrimes.f (k + 1) a0 a1) := by
 intro a0 a1 k
 have ih0 := impl_EssentialPrimes.mono_l k
 unfold impl_EssentialPrimes.f
 repeat' first
   | (with_reducible exact ih0 _ _ _ _ _ _ _)
   | (with_reducible exact impl_Table_primes.mono _ _ _)
   | (with_reducible exact LeO.refl _)
   | (with_reducible exact LeO.none _)
   | (with_reducible refine LeO.ite ?_ ?_)
   | (with_reducible refine LeO.bind ?_ (fun _ => ?_))
   | exact ih0 _ _ _ _ _ _ _
   | exact impl_Table_primes.mono _ _ _
   | exact LeO.none _
   | refine LeO.ite ?_ ?_
   | refine LeO.bind ?_ (fun _ => ?_)
def impl_EssentialPrimes.T8 : Bool × List (List Nat × List Nat) := (true, [([], []), ([], []), ([0, 1], [0, 1]), ([2], [2]), ([], []), ([], []), ([5], [5]), ([4, 6], [4, 6]), ([3, 7, 3], [3, 7]), ([8, 8, 0, 1, 2, 3, 4, 5, 6, 7, 8], [8])])
def impl_EssentialPrimes.B8 : List Nat := [0, 0, 3, 7, 0, 0, 32, 112, 255, 511]
theorem impl_EssentialPrimes.tab8 : rtab .any (opsOf Try.f11 8) = impl_EssentialPrimes.T8 := by kernel_rfl
theorem impl_EssentialPrimes.bits8 : waitsOk impl_EssentialPrimes.T8.2 impl_EssentialPrimes.B8 = true := by kernel_rfl
set_option maxHeartbeats 8000000 in
set_option maxRecDepth 100000 in
theorem impl_EssentialPrimes.calls (k : Nat) (a0_0 : Int) (a0_1 : Int) (r1 : List (S33)) (r2 : Bool) (w : World) (h : impl_EssentialPrimes.f k a0_0 a0_1 = some (r1, r2)) :
  Calls Try.prog 11 #[.agg #[.int .i64 a0_0, .int .i64 a0_1]] w fun e w' => ∃ v0_ : Value, e = .returned (.tuple #[v0_, .bool r2]) ∧ Kd.R k33 33 w' w.heap.size (fun _ => True) v0_ r1 ∧ Below w.heap.size w w' := by
 have hu25 := Try.underlying25
 have hu33 := Try.underlying33
 have HB := zA (Below.refl w.heap.size w)
 have H := h
 unfold impl_EssentialPrimes.f at H
 clear h
 replace H := Option.bind_eq_some_iff.mp H
 obtain ⟨t316, A20, H⟩ := H
 replace H : (if t316 = true then ((impl_Table_primes.f k a0_0 a0_1).bind fun t317 => (impl_EssentialPrimes.l0 k t317 ([] : List (S33)) t317 (t317.length : Int) 0 a0_0 a0_1)) else (some (([] : List (S33)), false))) = some (r1, r2) := H
 have A2 := zA A20
 clear A20
 by_cases c3 : t316 = true
 ·subst c3
  have H1 : ((impl_Table_primes.f k a0_0 a0_1).bind fun t317 => (impl_EssentialPrimes.l0 k t317 ([] : List (S33)) t317 (t317.length : Int) 0 a0_0 a0_1)) = some (r1, r2) := by rw [if_pos rfl] at H; exact H
  clear H
  have H := H1
  clear H1
  replace H := Option.bind_eq_some_iff.mp H
  obtain ⟨t317, A40, H⟩ := H
  replace H : (impl_EssentialPrimes.l0 k t317 ([] : List (S33)) t317 (t317.length : Int) 0 a0_0 a0_1) = some (r1, r2) := H
  have A4 := zA A40
  clear A40
  have H' := zA H
  clear H
  go_enter Try.func11, Try.ntmps11
  go_wp2_with (first | ((with_reducible refine gate_dst (N := 1) rfl ?_); refine box_event ?hg (N := 1) ?hd (cs := #[.int .i64 a0_0, .int .i64 a0_1]) (t := 25) ?hr ?_; (case hd => rfl); (case hg => rfl); (case hr => exact zH); intro gb315 hg w5 hbox hb; have BK315 := zA (hbox); have GW315 := zg HB hg; have GE315 := zg HB hg; replace HB := zA (below_step (zB HB) hb); clear hb hbox hg; have hcz6_0 := zc0 BK315; have hcz6_1 := zc1 BK315; have hfz6_0 := blk_frozen BK315.out 0; have hfz6_1 := blk_frozen BK315.out 1) | ((with_reducible refine gate_callee (f := 39) rfl ?_); refine goesL_ (some 10) rfl rfl Try.func39 (by kernel_rfl) rfl #[.agg #[.int .i64 a0_0, .int .i64 a0_1]] rfl zM ?_; (with_reducible refine (impl_IsTable.calls a0_0 a0_1 true _ A2.out).mono ?_); rintro e w7 ⟨rfl, hb⟩; refine ⟨_, rfl, ?_⟩; replace BK315 := zb BK315 hb; replace HB := zA (below_step (zB1 HB GE315) hb); (try clear hb); (try clear hb2); (try clear hk); (try clear hi); have hcz8_0 := zc0 BK315; have hcz8_1 := zc1 BK315; have hfz8_0 := blk_frozen BK315.out 0; have hfz8_1 := blk_frozen BK315.out 1) | ((with_reducible refine gate_callee (f := 40) rfl ?_); refine goesL_ (some 13) rfl rfl Try.func40 (by kernel_rfl) rfl #[.agg #[.int .i64 a0_0, .int .i64 a0_1]] rfl zM ?_; (with_reducible refine (impl_Table_primes.calls k a0_0 a0_1 t317 _ A4.out).mono ?_); rintro e w9 ⟨v318, rfl, ho0, hb⟩; refine ⟨_, rfl, ?_⟩; have HO319 := zA (Kd.R_lower ho0 (below_size (zB1 HB GE315))); replace BK315 := zb BK315 hb; replace HB := zA (below_step (zB1 HB GE315) hb); (try clear hb); (try clear hb2); (try clear hk); (try clear hi); (try clear ho0); obtain ⟨Ao10, co10, eo10⟩ := Kd.R_slice HO319.out; subst eo10))
  go_loopg [5, 16] k (fun kq v5 v16 w' => ∃ (x5_1 : List (S33)) (x16_1 : Int), v16 = .int .i64 x16_1 ∧ Aside0 (impl_EssentialPrimes.l0 kq t317 x5_1 t317 (t317.length : Int) x16_1 a0_0 a0_1 = some (r1, r2)) ∧ Aside0 (kq ≤ k) ∧ Aside0 (Kd.R k33 33 w' w.heap.size (fun k_ => some k_ ≠ (v5 : Value).ownBlock) (.slice Ao10 t317.length co10) t317) ∧ Aside0 (Kd.R k33 33 w' w.heap.size (fun k_ => some k_ ≠ ((.slice Ao10 t317.length co10) : Value).ownBlock ∧ some k_ ≠ ((.slice Ao10 t317.length co10) : Value).ownBlock) v5 x5_1) ∧ Aside0 (Kd.R k33 33 w' w.heap.size (fun k_ => some k_ ≠ (v5 : Value).ownBlock) (.slice Ao10 t317.length co10) t317) ∧ Aside0 (w'.heap[gb315]? = some (.cells #[.int .i64 a0_0, .int .i64 a0_1] 25 (0, 0))) ∧ Aside0 (Below w.heap.size w w'))
  case atStart => exact ⟨(([] : List (S33))), (0), zS, H', ⟨Nat.le_refl _⟩, ⟨by (with_reducible repeat (first | apply Kd.R_alloc | apply Kd.R_drewN | apply Kd.R_drew)); exact Kd.R_mono HO319.out (fun _ hk => (by simp [Value.ownBlock]))⟩, ⟨by first | exact Kd.R_nil _ _ _ _ _ | exact Kd.N_nil _ _ _ _ _ | exact Kd.V_nil _ _ _ _ _ | exact Kd.Q_nil _ _ _ _ _ | exact Kd.S_nil _ _ _ _ _⟩, ⟨by (with_reducible repeat (first | apply Kd.R_alloc | apply Kd.R_drewN | apply Kd.R_drew)); exact Kd.R_mono HO319.out (fun _ hk => (by simp [Value.ownBlock]))⟩, ⟨zD BK315⟩, ⟨zB1 HB GE315⟩⟩
  case round =>
   clear H'
   try clear c3
   try clear hcz6_0
   try clear hcz6_1
   try clear hcz8_0
   try clear hcz8_1
   try clear hfz6_0
   try clear hfz6_1
   try clear hfz8_0
   try clear hfz8_1
   obtain ⟨x5_1, x16_1, rfl, HA, HK1, HO_4, HO_5, HO_14, BK315, HB⟩ := hrel
   cases gk with
   | zero => exact absurd HA.out (by simp [impl_EssentialPrimes.l0])
   | succ k1 =>
    have H := HA.out
    clear HA
    simp only [impl_EssentialPrimes.l0] at H
    by_cases c11 : x16_1 < (t317.length : Int)
    ·rw [if_pos c11] at H
     have c11b0 : decide (x16_1 < (t317.length : Int)) = true := decide_eq_true c11
     clear c11
     by_cases c12 : 0 ≤ x16_1
     ·rw [if_pos c12] at H
      have c12b0 : decide (0 ≤ x16_1) = true := decide_eq_true c12
      clear c12
      by_cases c13 : x16_1 < (t317.length : Int)
      ·rw [if_pos c13] at H
       have c13b0 : decide (x16_1 < (t317.length : Int)) = true := decide_eq_true c13
       clear c13
       have c14b0 := eq_true (of_decide_eq_true (by first | (with_reducible assumption) | assumption) : 0 ≤ x16_1)
       by_cases c15 : x16_1 ≤ (t317.length : Int)
       ·rw [if_pos c15] at H
        have c15b0 := eq_true c15
        have c15b1 : decide (x16_1 ≤ (t317.length : Int)) = true := decide_eq_true c15
        clear c15
        obtain ⟨y322, hy322⟩ : ∃ y_ : List (S33), y_ = (t317.take (x16_1 : Int).toNat) := ⟨_, rfl⟩
        replace H : ((impl_Term_41.f y322).bind fun t326 => (if 0 ≤ (wrap64 (x16_1 + 1)) then (if (wrap64 (x16_1 + 1)) ≤ (t317.length : Int) then ((some (t317.drop ((wrap64 (x16_1 + 1)) : Int).toNat : List (S33))).bind fun y329 => (if t326.length + y329.length < 8796093022208 then ((impl_sumOf.f a0_0 (t326 ++ y329)).bind fun bt336 => (if (!(bt336.1 == a0_0) || (!(bt336.2 == a0_1))) = true then (if x5_1.length < 8796093022208 then (impl_EssentialPrimes.l0 k1 t317 (x5_1 ++ [(⟨(rd_T33 t317 x16_1).f0, (rd_T33 t317 x16_1).f1⟩ : S33)]) t317 (t317.length : Int) (wrap64 (x16_1 + 1)) a0_0 a0_1) else (none)) else (impl_EssentialPrimes.l0 k1 t317 x5_1 t317 (t317.length : Int) (wrap64 (x16_1 + 1)) a0_0 a0_1))) else (none))) else (none)) else (none))) = some (r1, r2) := by first | (rw [hy322]; with_reducible exact H) | (have H2_ := (Option.bind_some _ _).symm.trans H; rw [hy322]; with_reducible exact H2_) | (have H2_ := (Option.bind_some _ _).symm.trans H; with_reducible exact H2_) | with_reducible exact H | (rw [hy322]; exact H) | exact H
        have Ny322 := zA hy322
        clear hy322
        replace H := Option.bind_eq_some_iff.mp H
        obtain ⟨t326, A160, H⟩ := H
        replace H : (if 0 ≤ (wrap64 (x16_1 + 1)) then (if (wrap64 (x16_1 + 1)) ≤ (t317.length : Int) then ((some (t317.drop ((wrap64 (x16_1 + 1)) : Int).toNat : List (S33))).bind fun y329 => (if t326.length + y329.length < 8796093022208 then ((impl_sumOf.f a0_0 (t326 ++ y329)).bind fun bt336 => (if (!(bt336.1 == a0_0) || (!(bt336.2 == a0_1))) = true then (if x5_1.length < 8796093022208 then (impl_EssentialPrimes.l0 k1 t317 (x5_1 ++ [(⟨(rd_T33 t317 x16_1).f0, (rd_T33 t317 x16_1).f1⟩ : S33)]) t317 (t317.length : Int) (wrap64 (x16_1 + 1)) a0_0 a0_1) else (none)) else (impl_EssentialPrimes.l0 k1 t317 x5_1 t317 (t317.length : Int) (wrap64 (x16_1 + 1)) a0_0 a0_1))) else (none))) else (none)) else (none)) = some (r1, r2) := H
        have A16 := zA A160
        clear A160
        obtain ⟨ji17, hji17⟩ : ∃ j_ : Int, (wrap64 (x16_1 + 1)) = j_ := ⟨_, rfl⟩
        replace H : (if 0 ≤ (ji17) then (if (ji17) ≤ (t317.length : Int) then ((some (t317.drop ((ji17) : Int).toNat : List (S33))).bind fun y329 => (if t326.length + y329.length < 8796093022208 then ((impl_sumOf.f a0_0 (t326 ++ y329)).bind fun bt336 => (if (!(bt336.1 == a0_0) || (!(bt336.2 == a0_1))) = true then (if x5_1.length < 8796093022208 then (impl_EssentialPrimes.l0 k1 t317 (x5_1 ++ [(⟨(rd_T33 t317 x16_1).f0, (rd_T33 t317 x16_1).f1⟩ : S33)]) t317 (t317.length : Int) ji17 a0_0 a0_1) else (none)) else (impl_EssentialPrimes.l0 k1 t317 x5_1 t317 (t317.length : Int) ji17 a0_0 a0_1))) else (none))) else (none)) else (none)) = some (r1, r2) := by first | (rw [hji17] at H; exact H) | (simp only [hji17] at H ⊢; exact H)
        (try rw [hji17] at A16)
        have hji17w : (IntKind.i64.wrap (x16_1 + 1)) = ji17 := (i64_w _).trans hji17
        by_cases c18 : 0 ≤ (ji17)
        ·rw [if_pos c18] at H
         have c18b0 := eq_true c18
         have c18b1 : decide (0 ≤ (ji17)) = true := decide_eq_true c18
         clear c18
         by_cases c19 : (ji17) ≤ (t317.length : Int)
         ·rw [if_pos c19] at H
          have c19b0 := eq_true c19
          have c19b1 : decide ((ji17) ≤ (t317.length : Int)) = true := decide_eq_true c19
          clear c19
          obtain ⟨y329, hy329⟩ : ∃ y_ : List (S33), y_ = (t317.drop ((ji17) : Int).toNat) := ⟨_, rfl⟩
          replace H : (if t326.length + y329.length < 8796093022208 then ((impl_sumOf.f a0_0 (t326 ++ y329)).bind fun bt336 => (if (!(bt336.1 == a0_0) || (!(bt336.2 == a0_1))) = true then (if x5_1.length < 8796093022208 then (impl_EssentialPrimes.l0 k1 t317 (x5_1 ++ [(⟨(rd_T33 t317 x16_1).f0, (rd_T33 t317 x16_1).f1⟩ : S33)]) t317 (t317.length : Int) ji17 a0_0 a0_1) else (none)) else (impl_EssentialPrimes.l0 k1 t317 x5_1 t317 (t317.length : Int) ji17 a0_0 a0_1))) else (none)) = some (r1, r2) := by first | (rw [hy329]; with_reducible exact H) | (have H2_ := (Option.bind_some _ _).symm.trans H; rw [hy329]; with_reducible exact H2_) | (have H2_ := (Option.bind_some _ _).symm.trans H; with_reducible exact H2_) | with_reducible exact H | (rw [hy329]; exact H) | exact H
          have Ny329 := zA hy329
          clear hy329
          by_cases c20 : t326.length + y329.length < 8796093022208
          ·rw [if_pos c20] at H
           have LMc20 := zA c20
           clear c20
           obtain ⟨y333, hy333⟩ : ∃ y_ : List (S33), y_ = (t326 ++ y329) := ⟨_, rfl⟩
           replace H : ((impl_sumOf.f a0_0 y333).bind fun bt336 => (if (!(bt336.1 == a0_0) || (!(bt336.2 == a0_1))) = true then (if x5_1.length < 8796093022208 then (impl_EssentialPrimes.l0 k1 t317 (x5_1 ++ [(⟨(rd_T33 t317 x16_1).f0, (rd_T33 t317 x16_1).f1⟩ : S33)]) t317 (t317.length : Int) ji17 a0_0 a0_1) else (none)) else (impl_EssentialPrimes.l0 k1 t317 x5_1 t317 (t317.length : Int) ji17 a0_0 a0_1))) = some (r1, r2) := by first | (rw [hy333]; with_reducible exact H) | (have H2_ := (Option.bind_some _ _).symm.trans H; rw [hy333]; with_reducible exact H2_) | (have H2_ := (Option.bind_some _ _).symm.trans H; with_reducible exact H2_) | with_reducible exact H | (rw [hy333]; exact H) | exact H
           have Ny333 := zA hy333
           clear hy333
           replace H := Option.bind_eq_some_iff.mp H
           obtain ⟨⟨t336, t337⟩, A210, H⟩ := H
           replace H : (if (!(t336 == a0_0) || (!(t337 == a0_1))) = true then (if x5_1.length < 8796093022208 then (impl_EssentialPrimes.l0 k1 t317 (x5_1 ++ [(⟨(rd_T33 t317 x16_1).f0, (rd_T33 t317 x16_1).f1⟩ : S33)]) t317 (t317.length : Int) ji17 a0_0 a0_1) else (none)) else (impl_EssentialPrimes.l0 k1 t317 x5_1 t317 (t317.length : Int) ji17 a0_0 a0_1)) = some (r1, r2) := H
           have A21 := zA A210
           clear A210
           by_cases c22 : (!(t336 == a0_0) || (!(t337 == a0_1))) = true
           ·rw [if_pos c22] at H
            have c22b0 : (!(t336 == a0_0) || (!(t337 == a0_1))) = true := c22
            clear c22
            by_cases c23 : x5_1.length < 8796093022208
            ·rw [if_pos c23] at H
             have LMc23 := zA c23
             clear c23
             obtain ⟨y338, hy338⟩ : ∃ y_ : List (S33), y_ = (x5_1 ++ [(⟨(rd_T33 t317 x16_1).f0, (rd_T33 t317 x16_1).f1⟩ : S33)]) := ⟨_, rfl⟩
             replace H : (impl_EssentialPrimes.l0 k1 t317 y338 t317 (t317.length : Int) ji17 a0_0 a0_1) = some (r1, r2) := by first | (rw [hy338]; with_reducible exact H) | (have H2_ := (Option.bind_some _ _).symm.trans H; rw [hy338]; with_reducible exact H2_) | (have H2_ := (Option.bind_some _ _).symm.trans H; with_reducible exact H2_) | with_reducible exact H | (rw [hy338]; exact H) | exact H
             have Ny338 := zA hy338
             clear hy338
             have H' := zA H
             clear H
             have p320 : 0 ≤ (x16_1 : Int) := of_decide_eq_true (by first | (with_reducible assumption) | assumption)
             have q320 : x16_1 < (t317.length : Int) := of_decide_eq_true (by first | (with_reducible assumption) | assumption)
             obtain ⟨ad320, e320, hx320_0, hx320_1⟩ := at_T33 (Kd.R_reads' HO_14.out).2.2 x16_1 p320 q320
             cases e320
             replace p320 := eq_true p320
             replace q320 := eq_true q320
             try go_wp2_with (first | ((with_reducible refine gate_dst (N := 7) rfl ?_); refine box_event ?hg (N := 7) ?hd (cs := #[.int .i64 0, .int .i64 0]) (t := 33) ?hr ?_; (case hd => rfl); (case hg => rfl); (case hr => exact zH); intro gb321 hg w24 hbox hb; have BK321 := zA (hbox); have GW321 := zg1 HB GE315 hg; have GE321 := zg1 HB GE315 hg; have NB315_321 := zn BK315 hg; have NB321_315 := zo BK315 hg; replace HO_4 := zA (Kd.R_below (Kd.R_elderB (zR HO_4) gb321 (Nat.le_of_eq hg.symm)) hb); replace HO_5 := zA (Kd.R_below (Kd.R_elderB (zR HO_5) gb321 (Nat.le_of_eq hg.symm)) hb); replace HO_14 := zA (Kd.R_below (Kd.R_elderB (zR HO_14) gb321 (Nat.le_of_eq hg.symm)) hb); replace BK315 := zb BK315 hb; replace HB := zA (below_step (zB1 HB GE315) hb); clear hb hbox hg; have hnb25 := NB321_315.out; have hnc25 := NB315_321.out; have hcz26_0 := zc0 BK321; have hcz26_1 := zc1 BK321; have hfz26_0 := blk_frozen BK321.out 0; have hfz26_1 := blk_frozen BK321.out 1))
             have n0_ : Aside0 (Kd.R k33 33 ((w24.setCell ⟨gb321, 0, none⟩ (.int .i64 ((rd_T33 t317 x16_1).f0))).setCell ⟨gb321, 1, none⟩ (.int .i64 ((rd_T33 t317 x16_1).f1))) w.heap.size (fun k_ => some k_ ≠ (u5 : Value).ownBlock ∧ k_ ≠ gb321) (.slice (some ad320) t317.length co10) t317) := ⟨by (with_reducible repeat (first | apply Kd.R_alloc | apply Kd.R_drewN | apply Kd.R_drew)); exact Kd.R_mono (Kd.R_far (p := ⟨gb321, 1, none⟩) (Kd.R_far (p := ⟨gb321, 0, none⟩) (Kd.R_mono HO_4.out (fun k_ hk => (⟨hk, hk.2⟩ : _ ∧ k_ ≠ gb321))) (fun _ hk => hk.2) (.int .i64 ((rd_T33 t317 x16_1).f0))) (fun _ hk => hk.2) (.int .i64 ((rd_T33 t317 x16_1).f1))) (fun _ hk => ⟨hk.1.1, hk.1.2⟩)⟩
             have n1_ : Aside0 (Kd.R k33 33 ((w24.setCell ⟨gb321, 0, none⟩ (.int .i64 ((rd_T33 t317 x16_1).f0))).setCell ⟨gb321, 1, none⟩ (.int .i64 ((rd_T33 t317 x16_1).f1))) w.heap.size (fun k_ => some k_ ≠ (.slice (some ad320) t317.length co10 : Value).ownBlock ∧ some k_ ≠ (.slice (some ad320) t317.length co10 : Value).ownBlock ∧ k_ ≠ gb321) u5 x5_1) := ⟨by (with_reducible repeat (first | apply Kd.R_alloc | apply Kd.R_drewN | apply Kd.R_drew)); exact Kd.R_mono (Kd.R_far (p := ⟨gb321, 1, none⟩) (Kd.R_far (p := ⟨gb321, 0, none⟩) (Kd.R_mono HO_5.out (fun k_ hk => (⟨hk, hk.2⟩ : _ ∧ k_ ≠ gb321))) (fun _ hk => hk.2) (.int .i64 ((rd_T33 t317 x16_1).f0))) (fun _ hk => hk.2) (.int .i64 ((rd_T33 t317 x16_1).f1))) (fun _ hk => ⟨hk.1.1.1, ⟨hk.1.1.2, hk.1.2⟩⟩)⟩
             have n2_ : Aside0 (Kd.R k33 33 ((w24.setCell ⟨gb321, 0, none⟩ (.int .i64 ((rd_T33 t317 x16_1).f0))).setCell ⟨gb321, 1, none⟩ (.int .i64 ((rd_T33 t317 x16_1).f1))) w.heap.size (fun k_ => some k_ ≠ (u5 : Value).ownBlock ∧ k_ ≠ gb321) (.slice (some ad320) t317.length co10) t317) := ⟨by (with_reducible repeat (first | apply Kd.R_alloc | apply Kd.R_drewN | apply Kd.R_drew)); exact Kd.R_mono (Kd.R_far (p := ⟨gb321, 1, none⟩) (Kd.R_far (p := ⟨gb321, 0, none⟩) (Kd.R_mono HO_14.out (fun k_ hk => (⟨hk, hk.2⟩ : _ ∧ k_ ≠ gb321))) (fun _ hk => hk.2) (.int .i64 ((rd_T33 t317 x16_1).f0))) (fun _ hk => hk.2) (.int .i64 ((rd_T33 t317 x16_1).f1))) (fun _ hk => ⟨hk.1.1, hk.1.2⟩)⟩
             have n3_ : Aside0 (((w24.setCell ⟨gb321, 0, none⟩ (.int .i64 ((rd_T33 t317 x16_1).f0))).setCell ⟨gb321, 1, none⟩ (.int .i64 ((rd_T33 t317 x16_1).f1))).heap[gb315]? = some (.cells #[.int .i64 a0_0, .int .i64 a0_1] 25 (0, 0))) := ⟨zF BK315 NB315_321⟩
             have n4_ : Aside0 (((w24.setCell ⟨gb321, 0, none⟩ (.int .i64 ((rd_T33 t317 x16_1).f0))).setCell ⟨gb321, 1, none⟩ (.int .i64 ((rd_T33 t317 x16_1).f1))).heap[gb321]? = some (.cells #[.int .i64 ((rd_T33 t317 x16_1).f0), .int .i64 ((rd_T33 t317 x16_1).f1)] 33 (0, 0))) := ⟨zP BK321⟩
             have n5_ : Aside0 (Below w.heap.size w ((w24.setCell ⟨gb321, 0, none⟩ (.int .i64 ((rd_T33 t317 x16_1).f0))).setCell ⟨gb321, 1, none⟩ (.int .i64 ((rd_T33 t317 x16_1).f1)))) := ⟨zB2 HB GE315 GE321⟩
             (try clear HO_4)
             (try clear HO_5)
             (try clear HO_14)
             (try clear BK315)
             (try clear BK321)
             (try clear HB)
             generalize ((w24.setCell ⟨gb321, 0, none⟩ (.int .i64 ((rd_T33 t317 x16_1).f0))).setCell ⟨gb321, 1, none⟩ (.int .i64 ((rd_T33 t317 x16_1).f1))) = w27 at n0_ n1_ n2_ n3_ n4_ n5_ ⊢
             have HO_4 := n0_
             have HO_5 := n1_
             have HO_14 := n2_
             have BK315 := n3_
             have BK321 := n4_
             have HB := n5_
             clear n0_ n1_ n2_ n3_ n4_ n5_
             have n0_ := zA (Kd.R_drew HO_4.out)
             have n1_ := zA (Kd.R_drew HO_5.out)
             have n2_ := zA (Kd.R_drew HO_14.out)
             have n3_ := zA (blk_drew BK315.out)
             have n4_ := zA (blk_drew BK321.out)
             have n5_ := zA (below_drew1 HB.out)
             clear HO_4
             clear HO_5
             clear HO_14
             clear BK315
             clear BK321
             clear HB
             have HO_4 := n0_
             have HO_5 := n1_
             have HO_14 := n2_
             have BK315 := n3_
             have BK321 := n4_
             have HB := n5_
             clear n0_ n1_ n2_ n3_ n4_ n5_
             have q29 : (x16_1 : Int) ≤ ((t317.length : Int) : Int) := of_decide_eq_true (by first | (with_reducible assumption) | assumption)
             obtain ⟨i029, hi029, _, hsz29, _⟩ := info_parts info33
             have hroom29 : t317.length ≤ co10 := (Kd.R_reads' HO_4.out).2.1
             have hC29 : Kd.C k33 _ (some ad320) t317.length t317 := (Kd.R_reads' HO_4.out).2.2
             have hcut29 := cut_to (P := Try.prog) 27 33 .i64 Try.underlying27 hi029 (some ad320) t317.length co10 x16_1 (of_decide_eq_true (by first | (with_reducible assumption) | assumption)) q29 hroom29
             have hr29 := Kd.C_take (m := (x16_1 : Int).toNat) hC29 (by omega)
             have hy29 : y322.length = (x16_1 : Int).toNat := (by rw [Ny322.out, List.length_take]; omega)
             rw [← Ny322.out] at hr29
             rw [← hy29] at hcut29
             have HR325 := zA hr29
             have HC325 := zA (show y322.length ≤ co10 from by omega)
             clear hr29 hC29 hroom29 hi029 hsz29
             have KY29 := zA hy29
             clear hy29
             have KL29 := zA (show (x16_1 : Int).toNat ≤ t317.length from by omega)
             replace q29 := eq_true q29
             have q30 : ((ji17) : Int) ≤ ((t317.length : Int) : Int) := of_decide_eq_true (by first | (with_reducible assumption) | assumption)
             obtain ⟨i030, hi030, _, hsz30, _⟩ := info_parts info33
             have hroom30 : t317.length ≤ co10 := (Kd.R_reads' HO_4.out).2.1
             have hC30 : Kd.C k33 _ (some ad320) t317.length t317 := (Kd.R_reads' HO_4.out).2.2
             have q030 : (0 : Int) ≤ ((ji17) : Int) := of_decide_eq_true (by first | (with_reducible assumption) | assumption)
             have hcut30 := cut_from (P := Try.prog) 27 33 .i64 Try.underlying27 hi030 2 hsz30 (some ad320) t317.length co10 (ji17) q030 q30
             have hr30 := Kd.C_drop (m := ((ji17) : Int).toNat) (c := co10) hC30 (by omega) hroom30
             obtain ⟨A30, hA30⟩ : ∃ A1, A1 = (if co10 = ((ji17) : Int).toNat then (some ad320) else ((some ad320) : Option Addr).map (·.add (((ji17) : Int).toNat * 2))) := ⟨_, rfl⟩
             obtain ⟨c30, hc30⟩ : ∃ c1, c1 = co10 - ((ji17) : Int).toNat := ⟨_, rfl⟩
             have hy30 : y329.length = t317.length - ((ji17) : Int).toNat := (by rw [Ny329.out, List.length_drop] <;> omega)
             rw [show (t317).drop ((ji17) : Int).toNat = y329 from Ny329.out.symm] at hr30
             replace hr30 : Kd.C k33 _ A30 y329.length y329 := (by rw [hA30]; exact hr30)
             rw [← hy30, ← hA30, ← hc30] at hcut30
             have HR332 := zA hr30
             have HC332 := zA (show y329.length ≤ c30 from by rw [hy30, hc30]; exact Nat.sub_le_sub_right hroom30 _)
             clear hr30 hC30 hroom30 hi030 hsz30 hc30
             have KY30 := zA hy30
             have KA30 := zA hA30
             clear hy30 hA30
             have KL30 := zA (show ((ji17) : Int).toNat ≤ t317.length from by omega)
             replace q30 := eq_true q30
             refine start_ (n := 10) (S := fun w' => True) (ds := []) #[false, false, false, false, false, false, false, false, false, false] (by kernel_rfl) rfl rfl trivial (fun hHeld => ?_); refine with_tabW impl_EssentialPrimes.tab8 impl_EssentialPrimes.bits8 (fun HT_ HW_ => ?_)
             generalize w27.drew = w28 at HO_4 HO_5 HO_14 BK315 BK321 HB HR325 HR332 hHeld ⊢
             refine pure_ (i := 0) (N := some 21) (v := ?_) (a' := ?_) #[true, false, false, false, false, false, false, false, false, false] rfl rfl (any_of HT_.out (by kernel_rfl)) (fun _ _ _ h => h) (Or.inl ⟨by rfl, ?_⟩) ?_ ?_
             rotate_left
             ·intro w'
              go_simp
              with_reducible rfl
             rotate_left
             ·exact zU
             refine pure_ (i := 1) (N := some 22) (v := ?_) (a' := ?_) #[true, true, false, false, false, false, false, false, false, false] rfl rfl (any_of HT_.out (by kernel_rfl)) (fun _ _ _ h => h) (Or.inl ⟨by rfl, ?_⟩) ?_ ?_
             rotate_left
             ·intro w'
              go_simp
              with_reducible rfl
             rotate_left
             ·exact zU
             refine pure_ (i := 2) (N := some 23) (v := ?_) (a' := ?_) #[true, true, true, false, false, false, false, false, false, false] rfl rfl (any_of HT_.out (by kernel_rfl)) (fun _ _ _ h => h) (Or.inl ⟨by rfl, ?_⟩) ?_ ?_
             rotate_left
             ·intro w'
              go_simp
              with_reducible rfl
             rotate_left
             ·exact zU
             refine pure_ (i := 4) (N := some 25) (v := ?_) (a' := ?_) #[true, true, true, false, true, false, false, false, false, false] rfl rfl (any_of HT_.out (by kernel_rfl)) (fun _ _ _ h => h) (Or.inl ⟨by rfl, ?_⟩) ?_ ?_
             rotate_left
             ·intro w'
              go_simp
              with_reducible rfl
             rotate_left
             ·exact zU
             refine pure_ (i := 5) (N := some 26) (v := ?_) (a' := ?_) #[true, true, true, false, true, true, false, false, false, false] rfl rfl (any_of HT_.out (by kernel_rfl)) (fun _ _ _ h => h) (Or.inl ⟨by rfl, ?_⟩) ?_ ?_
             rotate_left
             ·intro w'
              go_simp
              with_reducible rfl
             rotate_left
             ·exact zU
             refine pure_ (i := 6) (N := some 27) (v := ?_) (a' := ?_) #[true, true, true, false, true, true, true, false, false, false] rfl rfl (any_of HT_.out (by kernel_rfl)) (fun _ _ _ h => h) (Or.inl ⟨by rfl, ?_⟩) ?_ ?_
             rotate_left
             ·intro w'
              go_simp
              with_reducible rfl
             rotate_left
             ·exact zU
             refine pure_ (i := 7) (N := some 28) (v := ?_) (a' := ?_) #[true, true, true, false, true, true, true, true, false, false] rfl rfl (any_of HT_.out (by kernel_rfl)) (fun _ _ _ h => h) (Or.inl ⟨by rfl, ?_⟩) ?_ ?_
             rotate_left
             ·intro w'
              go_simp
              with_reducible rfl
             rotate_left
             ·exact zU
             refine one_ (i := 3) (N := some 24) #[true, true, true, true, true, true, true, true, false, false] rfl rfl (one_of HT_.out (by kernel_rfl)) (by decide) (fun K hK => ?_)
             refine goes_ Try.func41 (by kernel_rfl) rfl #[.slice (some ad320) y322.length co10] (by rfl) rfl rfl zM ?_
             with_reducible refine (impl_Term_41.calls _ _ y322 t326 _ ?side1 ?side2 A16.out).mono ?_
             (case side1 => repeat (first | exact (by repeat (first | (with_reducible exact HR325.out) | (with_reducible refine Kd.C_alloc ?_ _) | (with_reducible refine Kd.C_drewN ?_ _) | (with_reducible refine Kd.C_drew ?_) | exact HR325.out)) | (with_reducible refine Kd.C_alloc ?_ _) | (with_reducible refine Kd.C_drewN ?_ _) | (with_reducible refine Kd.C_drew ?_)))
             (case side2 => exact HC325.out)
             rintro e w31 ⟨v327, rfl, ho0, hb⟩
             refine ⟨_, rfl, ?_⟩
             have n0_ := zA (Kd.R_elder' (zR HO_4) (Kd.R_base ho0) hb)
             have n1_ := zA (Kd.R_elder' (zR HO_5) (Kd.R_base ho0) hb)
             have n2_ := zA (Kd.R_elder' (zR HO_14) (Kd.R_base ho0) hb)
             have n3_ := zA (Kd.R_lower (Kd.R_newB (Kd.R_new' (Kd.R_new' (Kd.R_new' ho0 (Kd.R_lt (zR HO_4))) (Kd.R_lt (zR HO_5))) (Kd.R_lt (zR HO_14))) (g := gb321) (o := .cells #[.int .i64 ((rd_T33 t317 x16_1).f0), .int .i64 ((rd_T33 t317 x16_1).f1)] 33 (0, 0)) (zD BK321)) (below_size (zB2 HB GE315 GE321)))
             have n4_ := zb BK315 hb
             have n5_ := zb BK321 hb
             have n6_ := zA (Kd.C_below (by repeat (first | (with_reducible exact HR325.out) | (with_reducible refine Kd.C_alloc ?_ _) | (with_reducible refine Kd.C_drewN ?_ _) | (with_reducible refine Kd.C_drew ?_) | exact HR325.out)) hb)
             have n7_ := zA (Kd.C_below (by repeat (first | (with_reducible exact HR332.out) | (with_reducible refine Kd.C_alloc ?_ _) | (with_reducible refine Kd.C_drewN ?_ _) | (with_reducible refine Kd.C_drew ?_) | exact HR332.out)) hb)
             have n8_ := zA (below_step (zB2 HB GE315 GE321) hb)
             clear HO_4
             clear HO_5
             clear HO_14
             clear BK315
             clear BK321
             clear HR325
             clear HR332
             clear HB
             have HO_4 := n0_
             have HO_5 := n1_
             have HO_14 := n2_
             have HO328 := n3_
             have BK315 := n4_
             have BK321 := n5_
             have HR325 := n6_
             have HR332 := n7_
             have HB := n8_
             clear n0_ n1_ n2_ n3_ n4_ n5_ n6_ n7_ n8_
             (try clear hb)
             (try clear hb2)
             (try clear hk)
             (try clear hi)
             (try clear ho0)
             refine hK.out _ _ trivial (fun hHeld => ?_)
             clear hK K
             refine norm_ (a' := ?_) ?_ ?_
             rotate_left
             ·show Act.put _ (some 24) _ = _
              simp only [Act.put, List.setIfInBounds_toArray, List.set_cons_zero, List.set_cons_succ, i64_w, i32_w]
              rfl
             refine one_ (i := 8) (N := some 29) #[true, true, true, true, true, true, true, true, true, false] rfl rfl (one_of HT_.out (by kernel_rfl)) (by decide) (fun K hK => ?_)
             refine Kd.R_append_rows_step k33 (w0 := w) w.heap.size (by rfl) (.tmp 24) (.tmp 28) 27 33 (.agg #[(.int .i64 0), (.int .i64 0)]) 16 rfl Try.underlying27 info33 rfl (by decide) (by omega) v327 t326 y329 _ _ _ (fun k_ => some k_ ≠ (.slice (some ad320) t317.length co10 : Value).ownBlock ∧ some k_ ≠ (u5 : Value).ownBlock ∧ some k_ ≠ (.slice (some ad320) t317.length co10 : Value).ownBlock ∧ k_ ≠ gb321) (fun _ => False) rfl rfl ?aO ?aR (fun _ _ h => h) (fun _ h => h.elim) ?aF ?aB ?aS ?aL ?_
             (case aR => repeat (first | exact (by repeat (first | (with_reducible exact HR332.out) | (with_reducible refine Kd.C_alloc ?_ _) | (with_reducible refine Kd.C_drewN ?_ _) | (with_reducible refine Kd.C_drew ?_) | exact HR332.out)) | (with_reducible refine Kd.C_alloc ?_ _) | (with_reducible refine Kd.C_drewN ?_ _) | (with_reducible refine Kd.C_drew ?_)))
             (case aB => exact (zB2 HB GE315 GE321))
             (case aF => exact (fun k_ hk => ⟨Kd.fresh' (Kd.R_lt (zR HO_4)) k_ hk, Kd.fresh' (Kd.R_lt (zR HO_5)) k_ hk, Kd.fresh' (Kd.R_lt (zR HO_14)) k_ hk, Kd.freshB (g := gb321) (o := .cells #[.int .i64 ((rd_T33 t317 x16_1).f0), .int .i64 ((rd_T33 t317 x16_1).f1)] 33 (0, 0)) (zD BK321) k_ hk⟩))
             (case aO => exact (by (with_reducible repeat (first | apply Kd.R_alloc | apply Kd.R_drewN | apply Kd.R_drew)); exact Kd.R_mono HO328.out (fun _ hk => ⟨hk.1.1.1.2, ⟨hk.1.1.2, ⟨hk.1.2, hk.2⟩⟩⟩)))
             (case aS => exact (below_size (zB2 HB GE315 GE321)))
             (case aL => have := LMc20.out; omega)
             intro v334 w32 ho hb hg hat
             rw [← Ny333.out] at ho
             have n0_ := zA (Kd.R_after (ok := (fun k_ => some k_ ≠ (u5 : Value).ownBlock ∧ k_ ≠ gb321)) (zR HO_4) hg hat)
             have n1_ := zA (Kd.R_after (ok := (fun k_ => some k_ ≠ (.slice (some ad320) t317.length co10 : Value).ownBlock ∧ some k_ ≠ (.slice (some ad320) t317.length co10 : Value).ownBlock ∧ k_ ≠ gb321)) (zR HO_5) hg hat)
             have n2_ := zA (Kd.R_after (ok := (fun k_ => some k_ ≠ (u5 : Value).ownBlock ∧ k_ ≠ gb321)) (zR HO_14) hg hat)
             have n3_ := zA (blk_grown (g := gb315) (o := .cells #[.int .i64 a0_0, .int .i64 a0_1] 25 (0, 0)) (zD BK315) hg (Kd.R_ne HO328.out BK315.out (by decide)))
             have n4_ := zA (blk_grown (g := gb321) (o := .cells #[.int .i64 ((rd_T33 t317 x16_1).f0), .int .i64 ((rd_T33 t317 x16_1).f1)] 33 (0, 0)) (zD BK321) hg (Kd.R_away HO328.out (fun _ hk => hk.2)))
             have n5_ := zA (hb)
             have n6_ := zA ((show Kd.C k33 w32 (some ad320) y322.length y322 from by rw [Ny322.out]; exact Kd.C_take (m := (x16_1 : Int).toNat) ((Kd.R_reads' (Kd.R_after (ok := (fun k_ => some k_ ≠ (u5 : Value).ownBlock ∧ k_ ≠ gb321)) (zR HO_4) hg hat)).2.2) KL29.out))
             have n7_ := zA ((show Kd.C k33 w32 A30 y329.length y329 from by rw [Ny329.out, KA30.out]; exact Kd.C_drop (m := ((ji17) : Int).toNat) (c := co10) ((Kd.R_reads' (Kd.R_after (ok := (fun k_ => some k_ ≠ (u5 : Value).ownBlock ∧ k_ ≠ gb321)) (zR HO_4) hg hat)).2.2) KL30.out ((Kd.R_reads' (Kd.R_after (ok := (fun k_ => some k_ ≠ (u5 : Value).ownBlock ∧ k_ ≠ gb321)) (zR HO_4) hg hat)).2.1)))
             have n8_ := zA (ho)
             clear HO_4
             clear HO_5
             clear HO_14
             clear BK315
             clear BK321
             clear HB
             clear HR325
             clear HR332
             clear HO328
             have HO_4 := n0_
             have HO_5 := n1_
             have HO_14 := n2_
             have BK315 := n3_
             have BK321 := n4_
             have HB := n5_
             have HR325 := n6_
             have HR332 := n7_
             have HO335 := n8_
             clear n0_ n1_ n2_ n3_ n4_ n5_ n6_ n7_ n8_
             clear ho hb hg hat
             refine hK.out _ _ trivial (fun hHeld => ?_)
             clear hK K
             refine norm_ (a' := ?_) ?_ ?_
             rotate_left
             ·show Act.put _ (some 29) _ = _
              simp only [Act.put, List.setIfInBounds_toArray, List.set_cons_zero, List.set_cons_succ, i64_w, i32_w]
              rfl
             refine pure_ (i := 9) (N := some 8) (v := ?_) (a' := ?_) #[true, true, true, true, true, true, true, true, true, true] rfl rfl (any_of HT_.out (by kernel_rfl)) (fun _ _ _ h => h) (Or.inl ⟨by rfl, ?_⟩) ?_ ?_
             rotate_left
             ·intro w'
              go_simp
              with_reducible rfl
             rotate_left
             ·exact zU
             refine done_ (done_of HT_.out (by kernel_rfl)) ?_
             try go_wp2
             have n0_ := zA (Kd.R_drew HO_4.out)
             have n1_ := zA (Kd.R_drew HO_5.out)
             have n2_ := zA (Kd.R_drew HO_14.out)
             have n3_ := zA (Kd.R_drew HO335.out)
             have n4_ := zA (blk_drew BK315.out)
             have n5_ := zA (blk_drew BK321.out)
             have n6_ := zA (Kd.C_drew HR325.out)
             have n7_ := zA (Kd.C_drew HR332.out)
             have n8_ := zA (below_drew1 HB.out)
             clear HO_4
             clear HO_5
             clear HO_14
             clear HO335
             clear BK315
             clear BK321
             clear HR325
             clear HR332
             clear HB
             have HO_4 := n0_
             have HO_5 := n1_
             have HO_14 := n2_
             have HO335 := n3_
             have BK315 := n4_
             have BK321 := n5_
             have HR325 := n6_
             have HR332 := n7_
             have HB := n8_
             clear n0_ n1_ n2_ n3_ n4_ n5_ n6_ n7_ n8_
             obtain ⟨Ao34, co34, eo34⟩ := Kd.R_slice HO335.out
             (first | subst eo34 | (injection eo34 with f1_ f2_ f3_; have f4_ := f1_.symm; have f5_ := f3_.symm; clear f1_ f2_ f3_; subst f4_; subst f5_))
             refine start_ (n := 6) (S := fun w' => w'.cell? ⟨gb315, 0, none⟩ = some (.int .i64 a0_0) ∧ w'.cell? ⟨gb315, 1, none⟩ = some (.int .i64 a0_1)) (ds := []) #[false, false, false, false, false, false] (by kernel_rfl) rfl rfl ⟨(blk_cell BK315.out 0).trans rfl, (blk_cell BK315.out 1).trans rfl⟩ (fun hHeld => ?_)
             generalize w32.drew = w33 at HO_4 HO_5 HO_14 HO335 BK315 BK321 HR325 HR332 HB hHeld ⊢
             refine pure_ (i := 0) (N := some 30) (v := ?_) (a' := ?_) #[true, false, false, false, false, false] rfl rfl (by kernel_rfl) (fun _ _ _ h => h) (Or.inl ⟨by rfl, ?_⟩) ?_ ?_
             rotate_left
             ·intro w'
              go_simp
              with_reducible rfl
             rotate_left
             ·exact zU
             refine pure_ (i := 2) (N := some 32) (v := ?_) (a' := ?_) #[true, false, true, false, false, false] rfl rfl (by kernel_rfl) (fun _ _ _ h => h) (Or.inl ⟨by rfl, ?_⟩) ?_ ?_
             rotate_left
             ·intro w'
              go_simp
              with_reducible rfl
             rotate_left
             ·exact zU
             refine take_ (i := 1) (N := some 31) (v := ?_) (a' := ?_) #[true, true, true, false, false, false] rfl rfl (by kernel_rfl) (fun _ _ _ h => h) (Or.inl ⟨by rfl, ?_⟩) hHeld ?_ ?_
             rotate_left
             ·rintro w' ⟨s0, s1⟩
              go_simp
              with_reducible rfl
             rotate_left
             ·exact zU
             refine take_ (i := 4) (N := some 34) (v := ?_) (a' := ?_) #[true, true, true, false, true, false] rfl rfl (by kernel_rfl) (fun _ _ _ h => h) (Or.inl ⟨by rfl, ?_⟩) hHeld ?_ ?_
             rotate_left
             ·rintro w' ⟨s0, s1⟩
              go_simp
              with_reducible rfl
             rotate_left
             ·exact zU
             refine one_ (i := 3) (N := some 33) #[true, true, true, true, true, false] rfl rfl (by kernel_rfl) (by decide) (fun K hK => ?_)
             refine goes_ Try.func42 (by kernel_rfl) rfl #[.int .i64 a0_0, .slice Ao34 y333.length co34] (by rfl) rfl rfl zM ?_
             with_reducible refine (impl_sumOf.calls a0_0 _ _ y333 t336 t337 _ ?side1 ?side2 A21.out).mono ?_
             (case side1 => exact zC (Kd.R_reads' HO335.out).2.2)
             (case side2 => exact (Kd.R_reads' HO335.out).2.1)
             rintro e w35 ⟨rfl, hb⟩
             refine ⟨_, rfl, ?_⟩
             have n0_ := zA (Kd.R_below (zR HO_4) hb)
             have n1_ := zA (Kd.R_below (zR HO_5) hb)
             have n2_ := zA (Kd.R_below (zR HO_14) hb)
             have n3_ := zA (Kd.R_below (zR HO335) hb)
             have n4_ := zb BK315 hb
             have n5_ := zb BK321 hb
             have n6_ := zA (Kd.C_below (by repeat (first | (with_reducible exact HR325.out) | (with_reducible refine Kd.C_alloc ?_ _) | (with_reducible refine Kd.C_drewN ?_ _) | (with_reducible refine Kd.C_drew ?_) | exact HR325.out)) hb)
             have n7_ := zA (Kd.C_below (by repeat (first | (with_reducible exact HR332.out) | (with_reducible refine Kd.C_alloc ?_ _) | (with_reducible refine Kd.C_drewN ?_ _) | (with_reducible refine Kd.C_drew ?_) | exact HR332.out)) hb)
             have n8_ := zA (below_step (zB2 HB GE315 GE321) hb)
             clear HO_4
             clear HO_5
             clear HO_14
             clear HO335
             clear BK315
             clear BK321
             clear HR325
             clear HR332
             clear HB
             have HO_4 := n0_
             have HO_5 := n1_
             have HO_14 := n2_
             have HO335 := n3_
             have BK315 := n4_
             have BK321 := n5_
             have HR325 := n6_
             have HR332 := n7_
             have HB := n8_
             clear n0_ n1_ n2_ n3_ n4_ n5_ n6_ n7_ n8_
             (try clear hb)
             (try clear hb2)
             (try clear hk)
             (try clear hi)
             refine hK.out _ _ ⟨(blk_cell BK315.out 0).trans rfl, (blk_cell BK315.out 1).trans rfl⟩ (fun hHeld => ?_)
             clear hK K
             refine norm_ (a' := ?_) ?_ ?_
             rotate_left
             ·show Act.put _ (some 33) _ = _
              simp only [Act.put, List.setIfInBounds_toArray, List.set_cons_zero, List.set_cons_succ, i64_w, i32_w]
              rfl
             refine pure_ (i := 5) (N := some 35) (v := ?_) (a' := ?_) #[true, true, true, true, true, true] rfl rfl (by kernel_rfl) (fun _ _ _ h => h) (Or.inl ⟨by rfl, ?_⟩) ?_ ?_
             rotate_left
             ·intro w'
              go_simp
              with_reducible rfl
             rotate_left
             ·exact zU
             refine done_ (by kernel_rfl) ?_
             have hcz36_0 := zc0 BK321
             have hcz36_1 := zc1 BK321
             have hfz36_0 := blk_frozen BK321.out 0
             have hfz36_1 := blk_frozen BK321.out 1
             try go_wp2_with (first | ((with_reducible refine gate_builtin (b := .append) (xs := #[.tmp 36, .tmp 38]) rfl ?_); at_builtin; refine Kd.R_append k33 (w0 := w) w.heap.size rfl (.tmp 36) (.tmp 38) 27 33 (.agg #[(.int .i64 0), (.int .i64 0)]) 16 rfl Try.underlying27 info33 rfl (by decide) (by omega) u5 x5_1 (⟨(rd_T33 t317 x16_1).f0, (rd_T33 t317 x16_1).f1⟩ : S33) [.int .i64 ((rd_T33 t317 x16_1).f0), .int .i64 ((rd_T33 t317 x16_1).f1)] (fun k_ => some k_ ≠ (.slice (some ad320) t317.length co10 : Value).ownBlock ∧ some k_ ≠ (.slice (some ad320) t317.length co10 : Value).ownBlock ∧ some k_ ≠ (.slice Ao34 y333.length co34 : Value).ownBlock ∧ k_ ≠ gb321) (fun _ => False) rfl rfl ?aP (fun _ hk => hk.elim) ?aF ?aO ?aB ?aS ?aL ?_; (case aP => exact k33_mkM _ _ _ (⟨(rd_T33 t317 x16_1).f0, (rd_T33 t317 x16_1).f1⟩ : S33)); (case aB => exact (zB2 HB GE315 GE321)); (case aF => exact (fun k_ hk => ⟨Kd.fresh' (Kd.R_lt (zR HO_4)) k_ hk, Kd.fresh' (Kd.R_lt (zR HO_14)) k_ hk, Kd.fresh' (Kd.R_lt (zR HO335)) k_ hk, Kd.freshB (g := gb321) (o := .cells #[.int .i64 ((rd_T33 t317 x16_1).f0), .int .i64 ((rd_T33 t317 x16_1).f1)] 33 (0, 0)) (zD BK321) k_ hk⟩)); (case aO => exact (by (with_reducible repeat (first | apply Kd.R_alloc | apply Kd.R_drewN | apply Kd.R_drew)); exact Kd.R_mono HO_5.out (fun _ hk => ⟨hk.1.1, ⟨hk.1.2.1, ⟨hk.2, hk.1.2.2⟩⟩⟩))); (case aS => exact (below_size (zB2 HB GE315 GE321))); (case aL => have := LMc23.out; omega); intro v339 w37 ho hb hg hat; rw [← Ny338.out] at ho; have n0_ := zA (Kd.R_after (ok := (fun k_ => some k_ ≠ (.slice Ao34 y333.length co34 : Value).ownBlock ∧ k_ ≠ gb321)) (by (with_reducible repeat (first | apply Kd.R_alloc | apply Kd.R_drewN | apply Kd.R_drew)); exact Kd.R_mono HO_4.out (fun _ hk => ⟨⟨hk.2, hk.1.2⟩, hk.1.1⟩)) hg hat); have n1_ := zA (Kd.R_after (ok := (fun k_ => some k_ ≠ (.slice Ao34 y333.length co34 : Value).ownBlock ∧ k_ ≠ gb321)) (by (with_reducible repeat (first | apply Kd.R_alloc | apply Kd.R_drewN | apply Kd.R_drew)); exact Kd.R_mono HO_14.out (fun _ hk => ⟨⟨hk.2, hk.1.2⟩, hk.1.1⟩)) hg hat); have n2_ := zA (blk_grown (g := gb315) (o := .cells #[.int .i64 a0_0, .int .i64 a0_1] 25 (0, 0)) (zD BK315) hg (Kd.R_ne HO_5.out BK315.out (by decide))); have n3_ := zA (blk_grown (g := gb321) (o := .cells #[.int .i64 ((rd_T33 t317 x16_1).f0), .int .i64 ((rd_T33 t317 x16_1).f1)] 33 (0, 0)) (zD BK321) hg (Kd.R_away HO_5.out (fun _ hk => hk.1.2.2))); have n4_ := zA (Kd.R_after (ok := (fun k_ => some k_ ≠ (.slice (some ad320) t317.length co10 : Value).ownBlock ∧ some k_ ≠ (.slice (some ad320) t317.length co10 : Value).ownBlock ∧ k_ ≠ gb321)) (by (with_reducible repeat (first | apply Kd.R_alloc | apply Kd.R_drewN | apply Kd.R_drew)); exact Kd.R_mono HO335.out (fun _ hk => ⟨⟨hk.1, ⟨hk.2.2.1, hk.2.2.2⟩⟩, hk.2.1⟩)) hg hat); have n5_ := zA (hb); have n6_ := zA ((show Kd.C k33 w37 (some ad320) y322.length y322 from by rw [Ny322.out]; exact Kd.C_take (m := (x16_1 : Int).toNat) ((Kd.R_reads' (Kd.R_after (ok := (fun k_ => some k_ ≠ (.slice Ao34 y333.length co34 : Value).ownBlock ∧ k_ ≠ gb321)) (by (with_reducible repeat (first | apply Kd.R_alloc | apply Kd.R_drewN | apply Kd.R_drew)); exact Kd.R_mono HO_4.out (fun _ hk => ⟨⟨hk.2, hk.1.2⟩, hk.1.1⟩)) hg hat)).2.2) KL29.out)); have n7_ := zA ((show Kd.C k33 w37 A30 y329.length y329 from by rw [Ny329.out, KA30.out]; exact Kd.C_drop (m := ((ji17) : Int).toNat) (c := co10) ((Kd.R_reads' (Kd.R_after (ok := (fun k_ => some k_ ≠ (.slice Ao34 y333.length co34 : Value).ownBlock ∧ k_ ≠ gb321)) (by (with_reducible repeat (first | apply Kd.R_alloc | apply Kd.R_drewN | apply Kd.R_drew)); exact Kd.R_mono HO_4.out (fun _ hk => ⟨⟨hk.2, hk.1.2⟩, hk.1.1⟩)) hg hat)).2.2) KL30.out ((Kd.R_reads' (Kd.R_after (ok := (fun k_ => some k_ ≠ (.slice Ao34 y333.length co34 : Value).ownBlock ∧ k_ ≠ gb321)) (by (with_reducible repeat (first | apply Kd.R_alloc | apply Kd.R_drewN | apply Kd.R_drew)); exact Kd.R_mono HO_4.out (fun _ hk => ⟨⟨hk.2, hk.1.2⟩, hk.1.1⟩)) hg hat)).2.1))); have n8_ := zA (ho); clear HO_4; clear HO_14; clear BK315; clear BK321; clear HO335; clear HB; clear HR325; clear HR332; clear HO_5; have HO_4 := n0_; have HO_14 := n1_; have BK315 := n2_; have BK321 := n3_; have HO335 := n4_; have HB := n5_; have HR325 := n6_; have HR332 := n7_; have HO340 := n8_; clear n0_ n1_ n2_ n3_ n4_ n5_ n6_ n7_ n8_; clear ho hb hg hat))
             go_roundg k1
             case measure => have := HK1.out; omega
             case rel => exact ⟨(y338), (ji17), (by first | rfl | (simp; done) | (simp only [← hji17] <;> (first | rfl | simp)) | (simp [*]; done)), H', ⟨by have := HK1.out; omega⟩, ⟨by (with_reducible repeat (first | apply Kd.R_alloc | apply Kd.R_drewN | apply Kd.R_drew)); exact Kd.R_mono HO_4.out (fun _ hk => hk.2)⟩, ⟨by (with_reducible repeat (first | apply Kd.R_alloc | apply Kd.R_drewN | apply Kd.R_drew)); exact Kd.R_mono HO340.out (fun _ hk => ⟨hk.1, hk.2.1⟩)⟩, ⟨by (with_reducible repeat (first | apply Kd.R_alloc | apply Kd.R_drewN | apply Kd.R_drew)); exact Kd.R_mono HO_14.out (fun _ hk => hk.2)⟩, ⟨zD BK315⟩, ⟨zB2 HB GE315 GE321⟩⟩
            ·rw [if_neg c23] at H
             exact absurd H (by simp)
           ·rw [if_neg c22] at H
            have c22b0 : (!(t336 == a0_0) || (!(t337 == a0_1))) = false := by simpa using c22
            clear c22
            have H' := zA H
            clear H
            have p320 : 0 ≤ (x16_1 : Int) := of_decide_eq_true (by first | (with_reducible assumption) | assumption)
            have q320 : x16_1 < (t317.length : Int) := of_decide_eq_true (by first | (with_reducible assumption) | assumption)
            obtain ⟨ad320, e320, hx320_0, hx320_1⟩ := at_T33 (Kd.R_reads' HO_14.out).2.2 x16_1 p320 q320
            cases e320
            replace p320 := eq_true p320
            replace q320 := eq_true q320
            try go_wp2_with (first | ((with_reducible refine gate_dst (N := 7) rfl ?_); refine box_event ?hg (N := 7) ?hd (cs := #[.int .i64 0, .int .i64 0]) (t := 33) ?hr ?_; (case hd => rfl); (case hg => rfl); (case hr => exact zH); intro gb321 hg w38 hbox hb; have BK321 := zA (hbox); have GW321 := zg1 HB GE315 hg; have GE321 := zg1 HB GE315 hg; have NB315_321 := zn BK315 hg; have NB321_315 := zo BK315 hg; replace HO_4 := zA (Kd.R_below (Kd.R_elderB (zR HO_4) gb321 (Nat.le_of_eq hg.symm)) hb); replace HO_5 := zA (Kd.R_below (Kd.R_elderB (zR HO_5) gb321 (Nat.le_of_eq hg.symm)) hb); replace HO_14 := zA (Kd.R_below (Kd.R_elderB (zR HO_14) gb321 (Nat.le_of_eq hg.symm)) hb); replace BK315 := zb BK315 hb; replace HB := zA (below_step (zB1 HB GE315) hb); clear hb hbox hg; have hnb39 := NB321_315.out; have hnc39 := NB315_321.out; have hcz40_0 := zc0 BK321; have hcz40_1 := zc1 BK321; have hfz40_0 := blk_frozen BK321.out 0; have hfz40_1 := blk_frozen BK321.out 1))
            have n0_ : Aside0 (Kd.R k33 33 ((w38.setCell ⟨gb321, 0, none⟩ (.int .i64 ((rd_T33 t317 x16_1).f0))).setCell ⟨gb321, 1, none⟩ (.int .i64 ((rd_T33 t317 x16_1).f1))) w.heap.size (fun k_ => some k_ ≠ (u5 : Value).ownBlock ∧ k_ ≠ gb321) (.slice (some ad320) t317.length co10) t317) := ⟨by (with_reducible repeat (first | apply Kd.R_alloc | apply Kd.R_drewN | apply Kd.R_drew)); exact Kd.R_mono (Kd.R_far (p := ⟨gb321, 1, none⟩) (Kd.R_far (p := ⟨gb321, 0, none⟩) (Kd.R_mono HO_4.out (fun k_ hk => (⟨hk, hk.2⟩ : _ ∧ k_ ≠ gb321))) (fun _ hk => hk.2) (.int .i64 ((rd_T33 t317 x16_1).f0))) (fun _ hk => hk.2) (.int .i64 ((rd_T33 t317 x16_1).f1))) (fun _ hk => ⟨hk.1.1, hk.1.2⟩)⟩
            have n1_ : Aside0 (Kd.R k33 33 ((w38.setCell ⟨gb321, 0, none⟩ (.int .i64 ((rd_T33 t317 x16_1).f0))).setCell ⟨gb321, 1, none⟩ (.int .i64 ((rd_T33 t317 x16_1).f1))) w.heap.size (fun k_ => some k_ ≠ (.slice (some ad320) t317.length co10 : Value).ownBlock ∧ some k_ ≠ (.slice (some ad320) t317.length co10 : Value).ownBlock ∧ k_ ≠ gb321) u5 x5_1) := ⟨by (with_reducible repeat (first | apply Kd.R_alloc | apply Kd.R_drewN | apply Kd.R_drew)); exact Kd.R_mono (Kd.R_far (p := ⟨gb321, 1, none⟩) (Kd.R_far (p := ⟨gb321, 0, none⟩) (Kd.R_mono HO_5.out (fun k_ hk => (⟨hk, hk.2⟩ : _ ∧ k_ ≠ gb321))) (fun _ hk => hk.2) (.int .i64 ((rd_T33 t317 x16_1).f0))) (fun _ hk => hk.2) (.int .i64 ((rd_T33 t317 x16_1).f1))) (fun _ hk => ⟨hk.1.1.1, ⟨hk.1.1.2, hk.1.2⟩⟩)⟩
            have n2_ : Aside0 (Kd.R k33 33 ((w38.setCell ⟨gb321, 0, none⟩ (.int .i64 ((rd_T33 t317 x16_1).f0))).setCell ⟨gb321, 1, none⟩ (.int .i64 ((rd_T33 t317 x16_1).f1))) w.heap.size (fun k_ => some k_ ≠ (u5 : Value).ownBlock ∧ k_ ≠ gb321) (.slice (some ad320) t317.length co10) t317) := ⟨by (with_reducible repeat (first | apply Kd.R_alloc | apply Kd.R_drewN | apply Kd.R_drew)); exact Kd.R_mono (Kd.R_far (p := ⟨gb321, 1, none⟩) (Kd.R_far (p := ⟨gb321, 0, none⟩) (Kd.R_mono HO_14.out (fun k_ hk => (⟨hk, hk.2⟩ : _ ∧ k_ ≠ gb321))) (fun _ hk => hk.2) (.int .i64 ((rd_T33 t317 x16_1).f0))) (fun _ hk => hk.2) (.int .i64 ((rd_T33 t317 x16_1).f1))) (fun _ hk => ⟨hk.1.1, hk.1.2⟩)⟩
            have n3_ : Aside0 (((w38.setCell ⟨gb321, 0, none⟩ (.int .i64 ((rd_T33 t317 x16_1).f0))).setCell ⟨gb321, 1, none⟩ (.int .i64 ((rd_T33 t317 x16_1).f1))).heap[gb315]? = some (.cells #[.int .i64 a0_0, .int .i64 a0_1] 25 (0, 0))) := ⟨zF BK315 NB315_321⟩
            have n4_ : Aside0 (((w38.setCell ⟨gb321, 0, none⟩ (.int .i64 ((rd_T33 t317 x16_1).f0))).setCell ⟨gb321, 1, none⟩ (.int .i64 ((rd_T33 t317 x16_1).f1))).heap[gb321]? = some (.cells #[.int .i64 ((rd_T33 t317 x16_1).f0), .int .i64 ((rd_T33 t317 x16_1).f1)] 33 (0, 0))) := ⟨zP BK321⟩
            have n5_ : Aside0 (Below w.heap.size w ((w38.setCell ⟨gb321, 0, none⟩ (.int .i64 ((rd_T33 t317 x16_1).f0))).setCell ⟨gb321, 1, none⟩ (.int .i64 ((rd_T33 t317 x16_1).f1)))) := ⟨zB2 HB GE315 GE321⟩
            (try clear HO_4)
            (try clear HO_5)
            (try clear HO_14)
            (try clear BK315)
            (try clear BK321)
            (try clear HB)
            generalize ((w38.setCell ⟨gb321, 0, none⟩ (.int .i64 ((rd_T33 t317 x16_1).f0))).setCell ⟨gb321, 1, none⟩ (.int .i64 ((rd_T33 t317 x16_1).f1))) = w41 at n0_ n1_ n2_ n3_ n4_ n5_ ⊢
            have HO_4 := n0_
            have HO_5 := n1_
            have HO_14 := n2_
            have BK315 := n3_
            have BK321 := n4_
            have HB := n5_
            clear n0_ n1_ n2_ n3_ n4_ n5_
            have n0_ := zA (Kd.R_drew HO_4.out)
            have n1_ := zA (Kd.R_drew HO_5.out)
            have n2_ := zA (Kd.R_drew HO_14.out)
            have n3_ := zA (blk_drew BK315.out)
            have n4_ := zA (blk_drew BK321.out)
            have n5_ := zA (below_drew1 HB.out)
            clear HO_4
            clear HO_5
            clear HO_14
            clear BK315
            clear BK321
            clear HB
            have HO_4 := n0_
            have HO_5 := n1_
            have HO_14 := n2_
            have BK315 := n3_
            have BK321 := n4_
            have HB := n5_
            clear n0_ n1_ n2_ n3_ n4_ n5_
            have q43 : (x16_1 : Int) ≤ ((t317.length : Int) : Int) := of_decide_eq_true (by first | (with_reducible assumption) | assumption)
            obtain ⟨i043, hi043, _, hsz43, _⟩ := info_parts info33
            have hroom43 : t317.length ≤ co10 := (Kd.R_reads' HO_4.out).2.1
            have hC43 : Kd.C k33 _ (some ad320) t317.length t317 := (Kd.R_reads' HO_4.out).2.2
            have hcut43 := cut_to (P := Try.prog) 27 33 .i64 Try.underlying27 hi043 (some ad320) t317.length co10 x16_1 (of_decide_eq_true (by first | (with_reducible assumption) | assumption)) q43 hroom43
            have hr43 := Kd.C_take (m := (x16_1 : Int).toNat) hC43 (by omega)
            have hy43 : y322.length = (x16_1 : Int).toNat := (by rw [Ny322.out, List.length_take]; omega)
            rw [← Ny322.out] at hr43
            rw [← hy43] at hcut43
            have HR325 := zA hr43
            have HC325 := zA (show y322.length ≤ co10 from by omega)
            clear hr43 hC43 hroom43 hi043 hsz43
            have KY43 := zA hy43
            clear hy43
            have KL43 := zA (show (x16_1 : Int).toNat ≤ t317.length from by omega)
            replace q43 := eq_true q43
            have q44 : ((ji17) : Int) ≤ ((t317.length : Int) : Int) := of_decide_eq_true (by first | (with_reducible assumption) | assumption)
            obtain ⟨i044, hi044, _, hsz44, _⟩ := info_parts info33
            have hroom44 : t317.length ≤ co10 := (Kd.R_reads' HO_4.out).2.1
            have hC44 : Kd.C k33 _ (some ad320) t317.length t317 := (Kd.R_reads' HO_4.out).2.2
            have q044 : (0 : Int) ≤ ((ji17) : Int) := of_decide_eq_true (by first | (with_reducible assumption) | assumption)
            have hcut44 := cut_from (P := Try.prog) 27 33 .i64 Try.underlying27 hi044 2 hsz44 (some ad320) t317.length co10 (ji17) q044 q44
            have hr44 := Kd.C_drop (m := ((ji17) : Int).toNat) (c := co10) hC44 (by omega) hroom44
            obtain ⟨A44, hA44⟩ : ∃ A1, A1 = (if co10 = ((ji17) : Int).toNat then (some ad320) else ((some ad320) : Option Addr).map (·.add (((ji17) : Int).toNat * 2))) := ⟨_, rfl⟩
            obtain ⟨c44, hc44⟩ : ∃ c1, c1 = co10 - ((ji17) : Int).toNat := ⟨_, rfl⟩
            have hy44 : y329.length = t317.length - ((ji17) : Int).toNat := (by rw [Ny329.out, List.length_drop] <;> omega)
            rw [show (t317).drop ((ji17) : Int).toNat = y329 from Ny329.out.symm] at hr44
            replace hr44 : Kd.C k33 _ A44 y329.length y329 := (by rw [hA44]; exact hr44)
            rw [← hy44, ← hA44, ← hc44] at hcut44
            have HR332 := zA hr44
            have HC332 := zA (show y329.length ≤ c44 from by rw [hy44, hc44]; exact Nat.sub_le_sub_right hroom44 _)
            clear hr44 hC44 hroom44 hi044 hsz44 hc44
            have KY44 := zA hy44
            have KA44 := zA hA44
            clear hy44 hA44
            have KL44 := zA (show ((ji17) : Int).toNat ≤ t317.length from by omega)
            replace q44 := eq_true q44
            refine start_ (n := 10) (S := fun w' => True) (ds := []) #[false, false, false, false, false, false, false, false, false, false] (by kernel_rfl) rfl rfl trivial (fun hHeld => ?_); refine with_tabW impl_EssentialPrimes.tab8 impl_EssentialPrimes.bits8 (fun HT_ HW_ => ?_)
            generalize w41.drew = w42 at HO_4 HO_5 HO_14 BK315 BK321 HB HR325 HR332 hHeld ⊢
            refine pure_ (i := 0) (N := some 21) (v := ?_) (a' := ?_) #[true, false, false, false, false, false, false, false, false, false] rfl rfl (any_of HT_.out (by kernel_rfl)) (fun _ _ _ h => h) (Or.inl ⟨by rfl, ?_⟩) ?_ ?_
            rotate_left
            ·intro w'
             go_simp
             with_reducible rfl
            rotate_left
            ·exact zU
            refine pure_ (i := 1) (N := some 22) (v := ?_) (a' := ?_) #[true, true, false, false, false, false, false, false, false, false] rfl rfl (any_of HT_.out (by kernel_rfl)) (fun _ _ _ h => h) (Or.inl ⟨by rfl, ?_⟩) ?_ ?_
            rotate_left
            ·intro w'
             go_simp
             with_reducible rfl
            rotate_left
            ·exact zU
            refine pure_ (i := 2) (N := some 23) (v := ?_) (a' := ?_) #[true, true, true, false, false, false, false, false, false, false] rfl rfl (any_of HT_.out (by kernel_rfl)) (fun _ _ _ h => h) (Or.inl ⟨by rfl, ?_⟩) ?_ ?_
            rotate_left
            ·intro w'
             go_simp
             with_reducible rfl
            rotate_left
            ·exact zU
            refine pure_ (i := 4) (N := some 25) (v := ?_) (a' := ?_) #[true, true, true, false, true, false, false, false, false, false] rfl rfl (any_of HT_.out (by kernel_rfl)) (fun _ _ _ h => h) (Or.inl ⟨by rfl, ?_⟩) ?_ ?_
            rotate_left
            ·intro w'
             go_simp
             with_reducible rfl
            rotate_left
            ·exact zU
            refine pure_ (i := 5) (N := some 26) (v := ?_) (a' := ?_) #[true, true, true, false, true, true, false, false, false, false] rfl rfl (any_of HT_.out (by kernel_rfl)) (fun _ _ _ h => h) (Or.inl ⟨by rfl, ?_⟩) ?_ ?_
            rotate_left
            ·intro w'
             go_simp
             with_reducible rfl
            rotate_left
            ·exact zU
            refine pure_ (i := 6) (N := some 27) (v := ?_) (a' := ?_) #[true, true, true, false, true, true, true, false, false, false] rfl rfl (any_of HT_.out (by kernel_rfl)) (fun _ _ _ h => h) (Or.inl ⟨by rfl, ?_⟩) ?_ ?_
            rotate_left
            ·intro w'
             go_simp
             with_reducible rfl
            rotate_left
            ·exact zU
            refine pure_ (i := 7) (N := some 28) (v := ?_) (a' := ?_) #[true, true, true, false, true, true, true, true, false, false] rfl rfl (any_of HT_.out (by kernel_rfl)) (fun _ _ _ h => h) (Or.inl ⟨by rfl, ?_⟩) ?_ ?_
            rotate_left
            ·intro w'
             go_simp
             with_reducible rfl
            rotate_left
            ·exact zU
            refine one_ (i := 3) (N := some 24) #[true, true, true, true, true, true, true, true, false, false] rfl rfl (one_of HT_.out (by kernel_rfl)) (by decide) (fun K hK => ?_)
            refine goes_ Try.func41 (by kernel_rfl) rfl #[.slice (some ad320) y322.length co10] (by rfl) rfl rfl zM ?_
            with_reducible refine (impl_Term_41.calls _ _ y322 t326 _ ?side1 ?side2 A16.out).mono ?_
            (case side1 => repeat (first | exact (by repeat (first | (with_reducible exact HR325.out) | (with_reducible refine Kd.C_alloc ?_ _) | (with_reducible refine Kd.C_drewN ?_ _) | (with_reducible refine Kd.C_drew ?_) | exact HR325.out)) | (with_reducible refine Kd.C_alloc ?_ _) | (with_reducible refine Kd.C_drewN ?_ _) | (with_reducible refine Kd.C_drew ?_)))
            (case side2 => exact HC325.out)
            rintro e w45 ⟨v327, rfl, ho0, hb⟩
            refine ⟨_, rfl, ?_⟩
            have n0_ := zA (Kd.R_elder' (zR HO_4) (Kd.R_base ho0) hb)
            have n1_ := zA (Kd.R_elder' (zR HO_5) (Kd.R_base ho0) hb)
            have n2_ := zA (Kd.R_elder' (zR HO_14) (Kd.R_base ho0) hb)
            have n3_ := zA (Kd.R_lower (Kd.R_newB (Kd.R_new' (Kd.R_new' (Kd.R_new' ho0 (Kd.R_lt (zR HO_4))) (Kd.R_lt (zR HO_5))) (Kd.R_lt (zR HO_14))) (g := gb321) (o := .cells #[.int .i64 ((rd_T33 t317 x16_1).f0), .int .i64 ((rd_T33 t317 x16_1).f1)] 33 (0, 0)) (zD BK321)) (below_size (zB2 HB GE315 GE321)))
            have n4_ := zb BK315 hb
            have n5_ := zb BK321 hb
            have n6_ := zA (Kd.C_below (by repeat (first | (with_reducible exact HR325.out) | (with_reducible refine Kd.C_alloc ?_ _) | (with_reducible refine Kd.C_drewN ?_ _) | (with_reducible refine Kd.C_drew ?_) | exact HR325.out)) hb)
            have n7_ := zA (Kd.C_below (by repeat (first | (with_reducible exact HR332.out) | (with_reducible refine Kd.C_alloc ?_ _) | (with_reducible refine Kd.C_drewN ?_ _) | (with_reducible refine Kd.C_drew ?_) | exact HR332.out)) hb)
            have n8_ := zA (below_step (zB2 HB GE315 GE321) hb)
            clear HO_4
            clear HO_5
            clear HO_14
            clear BK315
            clear BK321
            clear HR325
            clear HR332
            clear HB
            have HO_4 := n0_
            have HO_5 := n1_
            have HO_14 := n2_
            have HO328 := n3_
            have BK315 := n4_
            have BK321 := n5_
            have HR325 := n6_
            have HR332 := n7_
            have HB := n8_
            clear n0_ n1_ n2_ n3_ n4_ n5_ n6_ n7_ n8_
            (try clear hb)
            (try clear hb2)
            (try clear hk)
            (try clear hi)
            (try clear ho0)
            refine hK.out _ _ trivial (fun hHeld => ?_)
            clear hK K
            refine norm_ (a' := ?_) ?_ ?_
            rotate_left
            ·show Act.put _ (some 24) _ = _
             simp only [Act.put, List.setIfInBounds_toArray, List.set_cons_zero, List.set_cons_succ, i64_w, i32_w]
             rfl
            refine one_ (i := 8) (N := some 29) #[true, true, true, true, true, true, true, true, true, false] rfl rfl (one_of HT_.out (by kernel_rfl)) (by decide) (fun K hK => ?_)
            refine Kd.R_append_rows_step k33 (w0 := w) w.heap.size (by rfl) (.tmp 24) (.tmp 28) 27 33 (.agg #[(.int .i64 0), (.int .i64 0)]) 16 rfl Try.underlying27 info33 rfl (by decide) (by omega) v327 t326 y329 _ _ _ (fun k_ => some k_ ≠ (.slice (some ad320) t317.length co10 : Value).ownBlock ∧ some k_ ≠ (u5 : Value).ownBlock ∧ some k_ ≠ (.slice (some ad320) t317.length co10 : Value).ownBlock ∧ k_ ≠ gb321) (fun _ => False) rfl rfl ?aO ?aR (fun _ _ h => h) (fun _ h => h.elim) ?aF ?aB ?aS ?aL ?_
            (case aR => repeat (first | exact (by repeat (first | (with_reducible exact HR332.out) | (with_reducible refine Kd.C_alloc ?_ _) | (with_reducible refine Kd.C_drewN ?_ _) | (with_reducible refine Kd.C_drew ?_) | exact HR332.out)) | (with_reducible refine Kd.C_alloc ?_ _) | (with_reducible refine Kd.C_drewN ?_ _) | (with_reducible refine Kd.C_drew ?_)))
            (case aB => exact (zB2 HB GE315 GE321))
            (case aF => exact (fun k_ hk => ⟨Kd.fresh' (Kd.R_lt (zR HO_4)) k_ hk, Kd.fresh' (Kd.R_lt (zR HO_5)) k_ hk, Kd.fresh' (Kd.R_lt (zR HO_14)) k_ hk, Kd.freshB (g := gb321) (o := .cells #[.int .i64 ((rd_T33 t317 x16_1).f0), .int .i64 ((rd_T33 t317 x16_1).f1)] 33 (0, 0)) (zD BK321) k_ hk⟩))
            (case aO => exact (by (with_reducible repeat (first | apply Kd.R_alloc | apply Kd.R_drewN | apply Kd.R_drew)); exact Kd.R_mono HO328.out (fun _ hk => ⟨hk.1.1.1.2, ⟨hk.1.1.2, ⟨hk.1.2, hk.2⟩⟩⟩)))
            (case aS => exact (below_size (zB2 HB GE315 GE321)))
            (case aL => have := LMc20.out; omega)
            intro v334 w46 ho hb hg hat
            rw [← Ny333.out] at ho
            have n0_ := zA (Kd.R_after (ok := (fun k_ => some k_ ≠ (u5 : Value).ownBlock ∧ k_ ≠ gb321)) (zR HO_4) hg hat)
            have n1_ := zA (Kd.R_after (ok := (fun k_ => some k_ ≠ (.slice (some ad320) t317.length co10 : Value).ownBlock ∧ some k_ ≠ (.slice (some ad320) t317.length co10 : Value).ownBlock ∧ k_ ≠ gb321)) (zR HO_5) hg hat)
            have n2_ := zA (Kd.R_after (ok := (fun k_ => some k_ ≠ (u5 : Value).ownBlock ∧ k_ ≠ gb321)) (zR HO_14) hg hat)
            have n3_ := zA (blk_grown (g := gb315) (o := .cells #[.int .i64 a0_0, .int .i64 a0_1] 25 (0, 0)) (zD BK315) hg (Kd.R_ne HO328.out BK315.out (by decide)))
            have n4_ := zA (blk_grown (g := gb321) (o := .cells #[.int .i64 ((rd_T33 t317 x16_1).f0), .int .i64 ((rd_T33 t317 x16_1).f1)] 33 (0, 0)) (zD BK321) hg (Kd.R_away HO328.out (fun _ hk => hk.2)))
            have n5_ := zA (hb)
            have n6_ := zA ((show Kd.C k33 w46 (some ad320) y322.length y322 from by rw [Ny322.out]; exact Kd.C_take (m := (x16_1 : Int).toNat) ((Kd.R_reads' (Kd.R_after (ok := (fun k_ => some k_ ≠ (u5 : Value).ownBlock ∧ k_ ≠ gb321)) (zR HO_4) hg hat)).2.2) KL43.out))
            have n7_ := zA ((show Kd.C k33 w46 A44 y329.length y329 from by rw [Ny329.out, KA44.out]; exact Kd.C_drop (m := ((ji17) : Int).toNat) (c := co10) ((Kd.R_reads' (Kd.R_after (ok := (fun k_ => some k_ ≠ (u5 : Value).ownBlock ∧ k_ ≠ gb321)) (zR HO_4) hg hat)).2.2) KL44.out ((Kd.R_reads' (Kd.R_after (ok := (fun k_ => some k_ ≠ (u5 : Value).ownBlock ∧ k_ ≠ gb321)) (zR HO_4) hg hat)).2.1)))
            have n8_ := zA (ho)
            clear HO_4
            clear HO_5
            clear HO_14
            clear BK315
            clear BK321
            clear HB
            clear HR325
            clear HR332
            clear HO328
            have HO_4 := n0_
            have HO_5 := n1_
            have HO_14 := n2_
            have BK315 := n3_
            have BK321 := n4_
            have HB := n5_
            have HR325 := n6_
            have HR332 := n7_
            have HO335 := n8_
            clear n0_ n1_ n2_ n3_ n4_ n5_ n6_ n7_ n8_
            clear ho hb hg hat
            refine hK.out _ _ trivial (fun hHeld => ?_)
            clear hK K
            refine norm_ (a' := ?_) ?_ ?_
            rotate_left
            ·show Act.put _ (some 29) _ = _
             simp only [Act.put, List.setIfInBounds_toArray, List.set_cons_zero, List.set_cons_succ, i64_w, i32_w]
             rfl
            refine pure_ (i := 9) (N := some 8) (v := ?_) (a' := ?_) #[true, true, true, true, true, true, true, true, true, true] rfl rfl (any_of HT_.out (by kernel_rfl)) (fun _ _ _ h => h) (Or.inl ⟨by rfl, ?_⟩) ?_ ?_
            rotate_left
            ·intro w'
             go_simp
             with_reducible rfl
            rotate_left
            ·exact zU
            refine done_ (done_of HT_.out (by kernel_rfl)) ?_
            try go_wp2
            have n0_ := zA (Kd.R_drew HO_4.out)
            have n1_ := zA (Kd.R_drew HO_5.out)
            have n2_ := zA (Kd.R_drew HO_14.out)
            have n3_ := zA (Kd.R_drew HO335.out)
            have n4_ := zA (blk_drew BK315.out)
            have n5_ := zA (blk_drew BK321.out)
            have n6_ := zA (Kd.C_drew HR325.out)
            have n7_ := zA (Kd.C_drew HR332.out)
            have n8_ := zA (below_drew1 HB.out)
            clear HO_4
            clear HO_5
            clear HO_14
            clear HO335
            clear BK315
            clear BK321
            clear HR325
            clear HR332
            clear HB
            have HO_4 := n0_
            have HO_5 := n1_
            have HO_14 := n2_
            have HO335 := n3_
            have BK315 := n4_
            have BK321 := n5_
            have HR325 := n6_
            have HR332 := n7_
            have HB := n8_
            clear n0_ n1_ n2_ n3_ n4_ n5_ n6_ n7_ n8_
            obtain ⟨Ao48, co48, eo48⟩ := Kd.R_slice HO335.out
            (first | subst eo48 | (injection eo48 with f1_ f2_ f3_; have f4_ := f1_.symm; have f5_ := f3_.symm; clear f1_ f2_ f3_; subst f4_; subst f5_))
            refine start_ (n := 6) (S := fun w' => w'.cell? ⟨gb315, 0, none⟩ = some (.int .i64 a0_0) ∧ w'.cell? ⟨gb315, 1, none⟩ = some (.int .i64 a0_1)) (ds := []) #[false, false, false, false, false, false] (by kernel_rfl) rfl rfl ⟨(blk_cell BK315.out 0).trans rfl, (blk_cell BK315.out 1).trans rfl⟩ (fun hHeld => ?_)
            generalize w46.drew = w47 at HO_4 HO_5 HO_14 HO335 BK315 BK321 HR325 HR332 HB hHeld ⊢
            refine pure_ (i := 0) (N := some 30) (v := ?_) (a' := ?_) #[true, false, false, false, false, false] rfl rfl (by kernel_rfl) (fun _ _ _ h => h) (Or.inl ⟨by rfl, ?_⟩) ?_ ?_
            rotate_left
            ·intro w'
             go_simp
             with_reducible rfl
            rotate_left
            ·exact zU
            refine pure_ (i := 2) (N := some 32) (v := ?_) (a' := ?_) #[true, false, true, false, false, false] rfl rfl (by kernel_rfl) (fun _ _ _ h => h) (Or.inl ⟨by rfl, ?_⟩) ?_ ?_
            rotate_left
            ·intro w'
             go_simp
             with_reducible rfl
            rotate_left
            ·exact zU
            refine take_ (i := 1) (N := some 31) (v := ?_) (a' := ?_) #[true, true, true, false, false, false] rfl rfl (by kernel_rfl) (fun _ _ _ h => h) (Or.inl ⟨by rfl, ?_⟩) hHeld ?_ ?_
            rotate_left
            ·rintro w' ⟨s0, s1⟩
             go_simp
             with_reducible rfl
            rotate_left
            ·exact zU
            refine take_ (i := 4) (N := some 34) (v := ?_) (a' := ?_) #[true, true, true, false, true, false] rfl rfl (by kernel_rfl) (fun _ _ _ h => h) (Or.inl ⟨by rfl, ?_⟩) hHeld ?_ ?_
            rotate_left
            ·rintro w' ⟨s0, s1⟩
             go_simp
             with_reducible rfl
            rotate_left
            ·exact zU
            refine one_ (i := 3) (N := some 33) #[true, true, true, true, true, false] rfl rfl (by kernel_rfl) (by decide) (fun K hK => ?_)
            refine goes_ Try.func42 (by kernel_rfl) rfl #[.int .i64 a0_0, .slice Ao48 y333.length co48] (by rfl) rfl rfl zM ?_
            with_reducible refine (impl_sumOf.calls a0_0 _ _ y333 t336 t337 _ ?side1 ?side2 A21.out).mono ?_
            (case side1 => exact zC (Kd.R_reads' HO335.out).2.2)
            (case side2 => exact (Kd.R_reads' HO335.out).2.1)
            rintro e w49 ⟨rfl, hb⟩
            refine ⟨_, rfl, ?_⟩
            have n0_ := zA (Kd.R_below (zR HO_4) hb)
            have n1_ := zA (Kd.R_below (zR HO_5) hb)
            have n2_ := zA (Kd.R_below (zR HO_14) hb)
            have n3_ := zA (Kd.R_below (zR HO335) hb)
            have n4_ := zb BK315 hb
            have n5_ := zb BK321 hb
            have n6_ := zA (Kd.C_below (by repeat (first | (with_reducible exact HR325.out) | (with_reducible refine Kd.C_alloc ?_ _) | (with_reducible refine Kd.C_drewN ?_ _) | (with_reducible refine Kd.C_drew ?_) | exact HR325.out)) hb)
            have n7_ := zA (Kd.C_below (by repeat (first | (with_reducible exact HR332.out) | (with_reducible refine Kd.C_alloc ?_ _) | (with_reducible refine Kd.C_drewN ?_ _) | (with_reducible refine Kd.C_drew ?_) | exact HR332.out)) hb)
            have n8_ := zA (below_step (zB2 HB GE315 GE321) hb)
            clear HO_4
            clear HO_5
            clear HO_14
            clear HO335
            clear BK315
            clear BK321
            clear HR325
            clear HR332
            clear HB
            have HO_4 := n0_
            have HO_5 := n1_
            have HO_14 := n2_
            have HO335 := n3_
            have BK315 := n4_
            have BK321 := n5_
            have HR325 := n6_
            have HR332 := n7_
            have HB := n8_
            clear n0_ n1_ n2_ n3_ n4_ n5_ n6_ n7_ n8_
            (try clear hb)
            (try clear hb2)
            (try clear hk)
            (try clear hi)
            refine hK.out _ _ ⟨(blk_cell BK315.out 0).trans rfl, (blk_cell BK315.out 1).trans rfl⟩ (fun hHeld => ?_)
            clear hK K
            refine norm_ (a' := ?_) ?_ ?_
            rotate_left
            ·show Act.put _ (some 33) _ = _
             simp only [Act.put, List.setIfInBounds_toArray, List.set_cons_zero, List.set_cons_succ, i64_w, i32_w]
             rfl
            refine pure_ (i := 5) (N := some 35) (v := ?_) (a' := ?_) #[true, true, true, true, true, true] rfl rfl (by kernel_rfl) (fun _ _ _ h => h) (Or.inl ⟨by rfl, ?_⟩) ?_ ?_
            rotate_left
            ·intro w'
             go_simp
             with_reducible rfl
            rotate_left
            ·exact zU
            refine done_ (by kernel_rfl) ?_
            try go_wp2
            go_roundg k1
            case measure => have := HK1.out; omega
            case rel => exact ⟨(x5_1), (ji17), (by first | rfl | (simp; done) | (simp only [← hji17] <;> (first | rfl | simp)) | (simp [*]; done)), H', ⟨by have := HK1.out; omega⟩, ⟨by (with_reducible repeat (first | apply Kd.R_alloc | apply Kd.R_drewN | apply Kd.R_drew)); exact Kd.R_mono HO_4.out (fun _ hk => hk.1.1)⟩, ⟨by (with_reducible repeat (first | apply Kd.R_alloc | apply Kd.R_drewN | apply Kd.R_drew)); exact Kd.R_mono HO_5.out (fun _ hk => ⟨hk.1.1, hk.1.2.1⟩)⟩, ⟨by (with_reducible repeat (first | apply Kd.R_alloc | apply Kd.R_drewN | apply Kd.R_drew)); exact Kd.R_mono HO_14.out (fun _ hk => hk.1.1)⟩, ⟨zD BK315⟩, ⟨zB2 HB GE315 GE321⟩⟩
          ·rw [if_neg c20] at H
           exact absurd H (by simp)
         ·rw [if_neg c19] at H
          exact absurd H (by simp)
        ·rw [if_neg c18] at H
         exact absurd H (by simp)
       ·rw [if_neg c15] at H
        exact absurd H (by simp)
      ·rw [if_neg c13] at H
       exact absurd H (by simp)
     ·rw [if_neg c12] at H
      exact absurd H (by simp)
    ·rw [if_neg c11] at H
     have c11b0 : decide (x16_1 < (t317.length : Int)) = false := decide_eq_false c11
     clear c11
     simp only [Option.some.injEq, Prod.mk.injEq] at H
     obtain ⟨rfl, rfl⟩ := H
     go_wp2
     go_ret2
     exact ⟨_, zE, by (with_reducible repeat (first | apply Kd.R_alloc | apply Kd.R_drewN | apply Kd.R_drew)); exact Kd.R_mono HO_5.out (fun _ hk => trivial), zB1 HB GE315⟩
 ·replace c3 := Bool.eq_false_iff.mpr c3
  subst c3
  have H1 : (some (([] : List (S33)), false)) = some (r1, r2) := by rw [if_neg (show ¬ (false = true) by decide)] at H; exact H
  clear H
  have H := H1
  clear H1
  simp only [Option.some.injEq, Prod.mk.injEq] at H
  obtain ⟨rfl, rfl⟩ := H
  go_enter Try.func11, Try.ntmps11
  go_wp2_with (first | ((with_reducible refine gate_dst (N := 1) rfl ?_); refine box_event ?hg (N := 1) ?hd (cs := #[.int .i64 a0_0, .int .i64 a0_1]) (t := 25) ?hr ?_; (case hd => rfl); (case hg => rfl); (case hr => exact zH); intro gb315 hg w50 hbox hb; have BK315 := zA (hbox); have GW315 := zg HB hg; have GE315 := zg HB hg; replace HB := zA (below_step (zB HB) hb); clear hb hbox hg; have hcz51_0 := zc0 BK315; have hcz51_1 := zc1 BK315; have hfz51_0 := blk_frozen BK315.out 0; have hfz51_1 := blk_frozen BK315.out 1) | ((with_reducible refine gate_callee (f := 39) rfl ?_); refine goesL_ (some 10) rfl rfl Try.func39 (by kernel_rfl) rfl #[.agg #[.int .i64 a0_0, .int .i64 a0_1]] rfl zM ?_; (with_reducible refine (impl_IsTable.calls a0_0 a0_1 false _ A2.out).mono ?_); rintro e w52 ⟨rfl, hb⟩; refine ⟨_, rfl, ?_⟩; replace BK315 := zb BK315 hb; replace HB := zA (below_step (zB1 HB GE315) hb); (try clear hb); (try clear hb2); (try clear hk); (try clear hi)))
  go_ret2
  exact ⟨_, zE, by first | exact Kd.R_nil _ _ _ _ _ | exact Kd.N_nil _ _ _ _ _ | exact Kd.V_nil _ _ _ _ _ | exact Kd.Q_nil _ _ _ _ _ | exact Kd.S_nil _ _ _ _ _, zB1 HB GE315⟩

end Go.Proofs.Ytfiejicdlaknnaa.P
