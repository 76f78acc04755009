/- The functions that this seat's laws reach, each as a plain Lean function, and the walk of each; written by a program over the kit's print. No conditions but those that stand in the theorems. -/
import Derived.Test.YtfiejicdlaknnaaK2
import Derived.Test.YtfiejicdlaknnaaK4
import Derived.Test.YtfiejicdlaknnaaK3
import Derived.Test.YtfiejicdlaknnaaPx5
import Derived.Test.YtfiejicdlaknnaaPz3
namespace Go.Proofs.Ytfiejicdlaknnaa.P
open Go.RowKit Go.Proofs.YtfiejicdlaknnaaW.PrintWords Go.Proofs.YtfiejicdlaknnaaW.PrintLast Go.Proofs.YtfiejicdlaknnaaW.PrintMore
attribute [local go_sem] max2_int min2_int max_two min_two max_three min_three max_four min_four   -- for this text's walks alone
set_option linter.unusedVariables false
set_option linter.unusedSimpArgs false

attribute [local go_sem] fld25_0 fld25_1
/-! ### spec_EssentialPrimes: function 12 -/
mutual
def spec_EssentialPrimes.l0 : Nat → List (S33) → List (S33) → Int → Int → Int → Option ((List (S33)) × Bool)
 | 0, _, _, _, _, _ => none
 | k + 1, x4, x5, x6, x342000, x342001 => if x6 < (x5.length : Int) then (if 0 ≤ x6 then ((spec_l6Word.f k x342000 ((rd_T33 x5 x6).f0) ((rd_T33 x5 x6).f1)).bind fun t350 => (spec_EssentialPrimes.l1 k x4 x5 x6 t350 0 x342000 x342001)) else (none)) else (some (x4, true))
def spec_EssentialPrimes.l1 : Nat → List (S33) → List (S33) → Int → Int → Int → Int → Int → Option ((List (S33)) × Bool)
 | 0, _, _, _, _, _, _, _ => none
 | k + 1, x4, x5, x6, x7, x8, x342000, x342001 => if x8 < (x5.length : Int) then (if x8 = x6 then (spec_EssentialPrimes.l1 k x4 x5 x6 x7 (wrap64 (x8 + 1)) x342000 x342001) else (if 0 ≤ x8 then ((spec_l6Word.f k x342000 ((rd_T33 x5 x8).f0) ((rd_T33 x5 x8).f1)).bind fun t352 => (spec_EssentialPrimes.l1 k x4 x5 x6 (wrap64 (x7 - (Go.bits .and .i64 x7 t352))) (wrap64 (x8 + 1)) x342000 x342001)) else (none))) else (if x7 > 0 then (if 0 ≤ x6 then (if x6 < (x5.length : Int) then (if x4.length < 8796093022208 then (spec_EssentialPrimes.l0 k (x4 ++ [(⟨(rd_T33 x5 x6).f0, (rd_T33 x5 x6).f1⟩ : S33)]) x5 (wrap64 (x6 + 1)) x342000 x342001) else (none)) else (none)) else (none)) else (spec_EssentialPrimes.l0 k x4 x5 (wrap64 (x6 + 1)) x342000 x342001))
end
def spec_EssentialPrimes.f (k : Nat) (a0_0 : Int) (a0_1 : Int) : Option ((List (S33)) × Bool) := (some (([] : List (S33)) : List (S33))).bind fun y342 => ((spec_IsTable.f a0_0 a0_1).bind fun t345 => (if t345 = true then ((spec_l6Primes.f k a0_0 a0_1).bind fun t346 => (spec_EssentialPrimes.l0 k y342 t346 0 a0_0 a0_1)) else (some (y342, false))))
theorem spec_EssentialPrimes.mono_l : ∀ k, (∀ y0 y1 y2 y3 y4, LeO (spec_EssentialPrimes.l0 k y0 y1 y2 y3 y4) (spec_EssentialPrimes.l0 (k + 1) y0 y1 y2 y3 y4)) ∧ (∀ y0 y1 y2 y3 y4 y5 y6, LeO (spec_EssentialPrimes.l1 k y0 y1 y2 y3 y4 y5 y6) (spec_EssentialPrimes.l1 (k + 1) y0 y1 y2 y3 y4 y5 y6))
 | 0 => ⟨fun _ _ _ _ _ r h => by simp [spec_EssentialPrimes.l0] at h, fun _ _ _ _ _ _ _ r h => by simp [spec_EssentialPrimes.l1] at h⟩
 | k + 1 => by
  obtain ⟨ih0, ih1⟩ := spec_EssentialPrimes.mono_l k
  refine ⟨?_, ?_⟩
  ·intro y0 y1 y2 y3 y4
   unfold spec_EssentialPrimes.l0
   repeat' first
   | (with_reducible exact ih0 _ _ _ _ _)
   | (with_reducible exact ih1 _ _ _ _ _ _ _)
   | (with_reducible exact spec_l6Primes.mono _ _ _)
   | (with_reducible exact spec_l6Word.mono _ _ _ _)
   | (with_reducible exact LeO.refl _)
   | (with_reducible exact LeO.none _)
   | (with_reducible refine LeO.ite ?_ ?_)
   | (with_reducible refine LeO.bind ?_ (fun _ => ?_))
   | exact ih0 _ _ _ _ _
   | exact ih1 _ _ _ _ _ _ _
   | exact spec_l6Primes.mono _ _ _
   | exact spec_l6Word.mono _ _ _ _
   | exact LeO.none _
   | refine LeO.ite ?_ ?_
   | refine LeO.bind ?_ (fun _ => ?_)
  ·intro y0 y1 y2 y3 y4 y5 y6
   unfold spec_EssentialPrimes.l1
   repeat' first
   | (with_reducible exact ih0 _ _ _ _ _)
   | (with_reducible exact ih1 _ _ _ _ _ _ _)
   | (with_reducible exact spec_l6Primes.mono _ _ _)
   | (with_reducible exact spec_l6Word.mono _ _ _ _)
   | (with_reducible exact LeO.refl _)
   | (with_reducible exact LeO.none _)
   | (with_reducible refine LeO.ite ?_ ?_)
   | (with_reducible refine LeO.bind ?_ (fun _ => ?_))
   | exact ih0 _ _ _ _ _
   | exact ih1 _ _ _ _ _ _ _
   | exact spec_l6Primes.mono _ _ _
   | exact spec_l6Word.mono _ _ _ _
   | exact LeO.none _
   | refine LeO.ite ?_ ?_
   | refine LeO.bind ?_ (fun _ => ?_)
theorem spec_EssentialPrimes.mono : ∀ a0 a1 k, LeO (spec_EssentialPrimes.f k a0 a1) (spec_EssentialPrimes.f (k + 1) a0 a1) := by
 intro a0 a1 k
 obtain ⟨ih0, ih1⟩ := spec_EssentialPrimes.mono_l k
 unfold spec_EssentialPrimes.f
 repeat' first
   | (with_reducible exact ih0 _ _ _ _ _)
   | (with_reducible exact ih1 _ _ _ _ _ _ _)
   | (with_reducible exact spec_l6Primes.mono _ _ _)
   | (with_reducible exact spec_l6Word.mono _ _ _ _)
   | (with_reducible exact LeO.refl _)
   | (with_reducible exact LeO.none _)
   | (with_reducible refine LeO.ite ?_ ?_)
   | (with_reducible refine LeO.bind ?_ (fun _ => ?_))
   | exact ih0 _ _ _ _ _
   | exact ih1 _ _ _ _ _ _ _
   | exact spec_l6Primes.mono _ _ _
   | exact spec_l6Word.mono _ _ _ _
   | exact LeO.none _
   | refine LeO.ite ?_ ?_
   | refine LeO.bind ?_ (fun _ => ?_)
def spec_EssentialPrimes.T8 : Bool × List (List Nat × List Nat) := (true, [([], []), ([0], [0]), ([], []), ([], []), ([2, 3], [2, 3]), ([4], [4]), ([1, 5], [1, 5]), ([6, 6, 0, 1, 2, 3, 4, 5, 6], [6])])
def spec_EssentialPrimes.B8 : List Nat := [0, 1, 0, 0, 12, 28, 63, 127]
theorem spec_EssentialPrimes.tab8 : rtab .any (opsOf Try.f12 8) = spec_EssentialPrimes.T8 := by kernel_rfl
theorem spec_EssentialPrimes.bits8 : waitsOk spec_EssentialPrimes.T8.2 spec_EssentialPrimes.B8 = true := by kernel_rfl
def spec_EssentialPrimes.T13 : Bool × List (List Nat × List Nat) := (true, [([], []), ([], []), ([], []), ([2], [2]), ([], []), ([], []), ([4, 5], [4, 5]), ([6], [6]), ([3, 7], [3, 7]), ([1, 8], [1, 8]), ([0, 9], [0, 9]), ([10, 8, 0, 1, 2, 3, 4, 5, 6, 7, 8, 9, 10], [0, 1, 10])])
def spec_EssentialPrimes.B13 : List Nat := [0, 0, 0, 4, 0, 0, 48, 112, 252, 510, 1023, 2047]
theorem spec_EssentialPrimes.tab13 : rtab .any (opsOf Try.f12 13) = spec_EssentialPrimes.T13 := by kernel_rfl
theorem spec_EssentialPrimes.bits13 : waitsOk spec_EssentialPrimes.T13.2 spec_EssentialPrimes.B13 = true := by kernel_rfl
set_option maxHeartbeats 8000000 in
set_option maxRecDepth 100000 in
theorem spec_EssentialPrimes.calls (k : Nat) (a0_0 : Int) (a0_1 : Int) (r1 : List (S33)) (r2 : Bool) (w : World) (h : spec_EssentialPrimes.f k a0_0 a0_1 = some (r1, r2)) :
  Calls Try.prog 12 #[.agg #[.int .i64 a0_0, .int .i64 a0_1]] w fun e w' => ∃ v0_ : Value, e = .returned (.tuple #[v0_, .bool r2]) ∧ Kd.R k33 33 w' w.heap.size (fun _ => True) v0_ r1 ∧ Below w.heap.size w w' := by
 have hu25 := Try.underlying25
 have hu33 := Try.underlying33
 have HB := zA (Below.refl w.heap.size w)
 have H := h
 unfold spec_EssentialPrimes.f at H
 clear h
 obtain ⟨y342, hy342⟩ : ∃ y_ : List (S33), y_ = (([] : List (S33))) := ⟨_, rfl⟩
 replace H : ((spec_IsTable.f a0_0 a0_1).bind fun t345 => (if t345 = true then ((spec_l6Primes.f k a0_0 a0_1).bind fun t346 => (spec_EssentialPrimes.l0 k y342 t346 0 a0_0 a0_1)) else (some (y342, false)))) = some (r1, r2) := by first | (rw [hy342]; with_reducible exact H) | (have H2_ := (Option.bind_some _ _).symm.trans H; rw [hy342]; with_reducible exact H2_) | (have H2_ := (Option.bind_some _ _).symm.trans H; with_reducible exact H2_) | with_reducible exact H | (rw [hy342]; exact H) | exact H
 have Ny342 := zA hy342
 clear hy342
 replace H := Option.bind_eq_some_iff.mp H
 obtain ⟨t345, A20, H⟩ := H
 replace H : (if t345 = true then ((spec_l6Primes.f k a0_0 a0_1).bind fun t346 => (spec_EssentialPrimes.l0 k y342 t346 0 a0_0 a0_1)) else (some (y342, false))) = some (r1, r2) := H
 have A2 := zA A20
 clear A20
 by_cases c3 : t345 = true
 ·subst c3
  have H1 : ((spec_l6Primes.f k a0_0 a0_1).bind fun t346 => (spec_EssentialPrimes.l0 k y342 t346 0 a0_0 a0_1)) = some (r1, r2) := by rw [if_pos rfl] at H; exact H
  clear H
  have H := H1
  clear H1
  replace H := Option.bind_eq_some_iff.mp H
  obtain ⟨t346, A40, H⟩ := H
  replace H : (spec_EssentialPrimes.l0 k y342 t346 0 a0_0 a0_1) = some (r1, r2) := H
  have A4 := zA A40
  clear A40
  have H' := zA H
  clear H
  go_enter Try.func12, Try.ntmps12
  go_wp2_with (first | ((with_reducible refine gate_dst (N := 1) rfl ?_); refine box_event ?hg (N := 1) ?hd (cs := #[.int .i64 a0_0, .int .i64 a0_1]) (t := 25) ?hr ?_; (case hd => rfl); (case hg => rfl); (case hr => exact zH); intro gb341 hg w5 hbox hb; have BK341 := zA (hbox); have GW341 := zg HB hg; have GE341 := zg HB hg; replace HB := zA (below_step (zB HB) hb); clear hb hbox hg) | ((with_reducible refine gate_dst (N := 9) rfl ?_); refine Kd.R_lit k33 _ 33 ?hg (N := 9) ?hd (xs := ([] : List (S33))) (inner := []) (ok := fun _ => True) (okp := fun _ => True) ?hr ?hp (fun _ hk => hk) trivial (Below.refl _ _) (Nat.le_refl _) (by simp) ?_; (case hd => rfl); (case hg => rfl); (case hr => exact zH); (case hp => exact (Reps.none _ _)); intro v343 w6 ho7 hb hg_ hnew_; clear hg_ hnew_; (first | rw [← Ny342.out] at ho7 | (simp only [Int.reduceToNat] at ho7; rw [← Ny342.out] at ho7)); have HO344 := zA (Kd.R_lower ho7 (below_size (zB1 HB GE341))); replace BK341 := zb BK341 hb; replace HB := zA (below_step (zB1 HB GE341) hb); clear hb ho7; have hcz8_0 := zc0 BK341; have hcz8_1 := zc1 BK341; have hfz8_0 := blk_frozen BK341.out 0; have hfz8_1 := blk_frozen BK341.out 1) | ((with_reducible refine gate_callee (f := 36) rfl ?_); refine goesL_ (some 11) rfl rfl Try.func36 (by kernel_rfl) rfl #[.agg #[.int .i64 a0_0, .int .i64 a0_1]] rfl zM ?_; (with_reducible refine (spec_IsTable.calls a0_0 a0_1 true _ A2.out).mono ?_); rintro e w9 ⟨rfl, hb⟩; refine ⟨_, rfl, ?_⟩; replace HO344 := zA (Kd.R_below (zR HO344) hb); replace BK341 := zb BK341 hb; replace HB := zA (below_step (zB1 HB GE341) hb); (try clear hb); (try clear hb2); (try clear hk); (try clear hi); have hcz10_0 := zc0 BK341; have hcz10_1 := zc1 BK341; have hfz10_0 := blk_frozen BK341.out 0; have hfz10_1 := blk_frozen BK341.out 1) | ((with_reducible refine gate_callee (f := 37) rfl ?_); refine goesL_ (some 15) rfl rfl Try.func37 (by kernel_rfl) rfl #[.agg #[.int .i64 a0_0, .int .i64 a0_1]] rfl zM ?_; (with_reducible refine (spec_l6Primes.calls k a0_0 a0_1 t346 _ A4.out).mono ?_); rintro e w11 ⟨v347, rfl, ho0, hb⟩; refine ⟨_, rfl, ?_⟩; have HO348 := zA (Kd.R_lower (Kd.R_new' ho0 (Kd.R_lt (zR HO344))) (below_size (zB1 HB GE341))); replace HO344 := zA (Kd.R_elder' (zR HO344) (Kd.R_base ho0) hb); replace BK341 := zb BK341 hb; replace HB := zA (below_step (zB1 HB GE341) hb); (try clear hb); (try clear hb2); (try clear hk); (try clear hi); (try clear ho0)))
  go_loopg [4, 6] k (fun kq v4 v6 w' => ∃ (x4_1 : List (S33)) (x6_1 : Int), v6 = .int .i64 x6_1 ∧ Aside0 (spec_EssentialPrimes.l0 kq x4_1 t346 x6_1 a0_0 a0_1 = some (r1, r2)) ∧ Aside0 (kq ≤ k) ∧ Aside0 (Kd.R k33 33 w' w.heap.size (fun k_ => some k_ ≠ (v347 : Value).ownBlock) v4 x4_1) ∧ Aside0 (Kd.R k33 33 w' w.heap.size (fun k_ => some k_ ≠ (v4 : Value).ownBlock) v347 t346) ∧ Aside0 (w'.heap[gb341]? = some (.cells #[.int .i64 a0_0, .int .i64 a0_1] 25 (0, 0))) ∧ Aside0 (Below w.heap.size w w'))
  case atStart => exact ⟨(y342), (0), zS, H', ⟨Nat.le_refl _⟩, ⟨by (with_reducible repeat (first | apply Kd.R_alloc | apply Kd.R_drewN | apply Kd.R_drew)); exact Kd.R_mono HO344.out (fun _ hk => hk.2)⟩, ⟨by (with_reducible repeat (first | apply Kd.R_alloc | apply Kd.R_drewN | apply Kd.R_drew)); exact Kd.R_mono HO348.out (fun _ hk => hk.2)⟩, ⟨zD BK341⟩, ⟨zB1 HB GE341⟩⟩
  case round =>
   clear H'
   try clear c3
   try clear hcz10_0
   try clear hcz10_1
   try clear hcz8_0
   try clear hcz8_1
   try clear hfz10_0
   try clear hfz10_1
   try clear hfz8_0
   try clear hfz8_1
   obtain ⟨x4_1, x6_1, rfl, HA, HK1, HO_4, HO_5, BK341, HB⟩ := hrel
   cases gk with
   | zero => exact absurd HA.out (by simp [spec_EssentialPrimes.l0])
   | succ k1 =>
    have H := HA.out
    clear HA
    simp only [spec_EssentialPrimes.l0] at H
    by_cases c12 : x6_1 < (t346.length : Int)
    ·rw [if_pos c12] at H
     have c12b0 : decide (x6_1 < (t346.length : Int)) = true := decide_eq_true c12
     clear c12
     by_cases c13 : 0 ≤ x6_1
     ·rw [if_pos c13] at H
      have c13b0 : decide (0 ≤ x6_1) = true := decide_eq_true c13
      clear c13
      replace H := Option.bind_eq_some_iff.mp H
      obtain ⟨t350, A140, H⟩ := H
      replace H : (spec_EssentialPrimes.l1 k1 x4_1 t346 x6_1 t350 0 a0_0 a0_1) = some (r1, r2) := H
      have A14 := zA A140
      clear A140
      have H' := zA H
      clear H
      obtain ⟨Ao15, co15, eo15⟩ := Kd.R_slice HO_5.out
      subst eo15
      try go_wp2
      have n0_ := zA (Kd.R_drew HO_4.out)
      have n1_ := zA (Kd.R_drew HO_5.out)
      have n2_ := zA (blk_drew BK341.out)
      have n3_ := zA (below_drew1 HB.out)
      clear HO_4
      clear HO_5
      clear BK341
      clear HB
      have HO_4 := n0_
      have HO_5 := n1_
      have BK341 := n2_
      have HB := n3_
      clear n0_ n1_ n2_ n3_
      have p349 : 0 ≤ (x6_1 : Int) := of_decide_eq_true (by first | (with_reducible assumption) | assumption)
      have q349 : x6_1 < (t346.length : Int) := of_decide_eq_true (by first | (with_reducible assumption) | assumption)
      obtain ⟨ad349, e349, hx349_0, hx349_1⟩ := at_T33 (Kd.R_reads' HO_5.out).2.2 x6_1 p349 q349
      cases e349
      replace p349 := eq_true p349
      replace q349 := eq_true q349
      refine start_ (n := 8) (S := fun w' => w'.cell? ⟨gb341, 0, none⟩ = some (.int .i64 a0_0) ∧ w'.cell? ⟨gb341, 1, none⟩ = some (.int .i64 a0_1) ∧ w'.cell? (ad349.add ((x6_1).toNat * 2)) = some (.int .i64 ((rd_T33 t346 x6_1).f0)) ∧ w'.cell? ⟨(ad349.add ((x6_1).toNat * 2)).block, (ad349.add ((x6_1).toNat * 2)).off + 1, none⟩ = some (.int .i64 ((rd_T33 t346 x6_1).f1))) (ds := []) #[false, false, false, false, false, false, false, false] (by kernel_rfl) rfl rfl ⟨(blk_cell BK341.out 0).trans rfl, (blk_cell BK341.out 1).trans rfl, hx349_0, hx349_1⟩ (fun hHeld => ?_); refine with_tabW spec_EssentialPrimes.tab8 spec_EssentialPrimes.bits8 (fun HT_ HW_ => ?_)
      generalize wr.drew = w16 at HO_4 HO_5 BK341 HB hx349_0 hx349_1 hHeld ⊢
      refine pure_ (i := 0) (N := some 22) (v := ?_) (a' := ?_) #[true, false, false, false, false, false, false, false] rfl rfl (any_of HT_.out (by kernel_rfl)) (fun _ _ _ h => h) (Or.inl ⟨by rfl, ?_⟩) ?_ ?_
      rotate_left
      ·intro w'
       go_simp
       with_reducible rfl
      rotate_left
      ·exact zU
      refine pure_ (i := 2) (N := some 24) (v := ?_) (a' := ?_) #[true, false, true, false, false, false, false, false] rfl rfl (any_of HT_.out (by kernel_rfl)) (fun _ _ _ h => h) (Or.inl ⟨by rfl, ?_⟩) ?_ ?_
      rotate_left
      ·intro w'
       go_simp
       with_reducible rfl
      rotate_left
      ·exact zU
      refine pure_ (i := 3) (N := some 25) (v := ?_) (a' := ?_) #[true, false, true, true, false, false, false, false] rfl rfl (any_of HT_.out (by kernel_rfl)) (fun _ _ _ h => h) (Or.inl ⟨by rfl, ?_⟩) ?_ ?_
      rotate_left
      ·intro w'
       go_simp
       with_reducible rfl
      rotate_left
      ·exact zU
      refine pure_ (i := 4) (N := some 26) (v := ?_) (a' := ?_) #[true, false, true, true, true, false, false, false] rfl rfl (any_of HT_.out (by kernel_rfl)) (fun _ _ _ h => h) (Or.inl ⟨by rfl, ?_⟩) ?_ ?_
      rotate_left
      ·intro w'
       go_simp
       with_reducible rfl
      rotate_left
      ·exact zU
      refine take_ (i := 1) (N := some 23) (v := ?_) (a' := ?_) #[true, true, true, true, true, false, false, false] rfl rfl (take_ofW HT_.out HW_.out (by kernel_rfl)) (fun _ _ _ h => h) (Or.inl ⟨by rfl, ?_⟩) hHeld ?_ ?_
      rotate_left
      ·rintro w' ⟨s0, s1, s2, s3⟩
       go_simp
       with_reducible rfl
      rotate_left
      ·exact zU
      refine take_ (i := 5) (N := some 27) (v := ?_) (a' := ?_) #[true, true, true, true, true, true, false, false] rfl rfl (take_ofW HT_.out HW_.out (by kernel_rfl)) (fun _ _ _ h => h) (Or.inl ⟨by rfl, ?_⟩) hHeld ?_ ?_
      rotate_left
      ·rintro w' ⟨s0, s1, s2, s3⟩
       go_simp
       with_reducible rfl
      rotate_left
      ·exact zU
      refine one_ (i := 6) (N := some 28) #[true, true, true, true, true, true, true, false] rfl rfl (one_of HT_.out (by kernel_rfl)) (by decide) (fun K hK => ?_)
      refine goes_ Try.func43 (by kernel_rfl) rfl #[.int .i64 a0_0, .agg #[.int .i64 ((rd_T33 t346 x6_1).f0), .int .i64 ((rd_T33 t346 x6_1).f1)]] (by rfl) rfl rfl zM ?_
      with_reducible refine (spec_l6Word.calls k1 a0_0 ((rd_T33 t346 x6_1).f0) ((rd_T33 t346 x6_1).f1) t350 _ A14.out).mono ?_
      rintro e w17 ⟨rfl, hb⟩
      have HS2_ := (hb.cell (World.block_lt_of_cell? _ _ (hHeld.2.2.1))).trans (hHeld.2.2.1)
      have HS3_ := (hb.cell (World.block_lt_of_cell? _ _ (hHeld.2.2.2))).trans (hHeld.2.2.2)
      refine ⟨_, rfl, ?_⟩
      have n0_ := zA (Kd.R_below (zR HO_4) hb)
      have n1_ := zA (Kd.R_below (zR HO_5) hb)
      have n2_ := zb BK341 hb
      have n3_ := zA (below_step (zB1 HB GE341) hb)
      clear HO_4
      clear HO_5
      clear BK341
      clear HB
      have HO_4 := n0_
      have HO_5 := n1_
      have BK341 := n2_
      have HB := n3_
      clear n0_ n1_ n2_ n3_
      (try clear hb)
      (try clear hb2)
      (try clear hk)
      (try clear hi)
      refine hK.out _ _ ⟨(blk_cell BK341.out 0).trans rfl, (blk_cell BK341.out 1).trans rfl, HS2_, HS3_⟩ (fun hHeld => ?_)
      clear hK K
      refine norm_ (a' := ?_) ?_ ?_
      rotate_left
      ·show Act.put _ (some 28) _ = _
       simp only [Act.put, List.setIfInBounds_toArray, List.set_cons_zero, List.set_cons_succ, i64_w, i32_w]
       rfl
      refine pure_ (i := 7) (N := some 7) (v := ?_) (a' := ?_) #[true, true, true, true, true, true, true, true] rfl rfl (any_of HT_.out (by kernel_rfl)) (fun _ _ _ h => h) (Or.inl ⟨by rfl, ?_⟩) ?_ ?_
      rotate_left
      ·intro w'
       go_simp
       with_reducible rfl
      rotate_left
      ·exact zU
      refine done_ (done_of HT_.out (by kernel_rfl)) ?_
      try go_wp2
      go_loopg [7, 8] k1 (fun kq v7 v8 w' => ∃ (x7_2 : Int) (x8_2 : Int), v7 = .int .i64 x7_2 ∧ v8 = .int .i64 x8_2 ∧ Aside0 (spec_EssentialPrimes.l1 kq x4_1 t346 x6_1 x7_2 x8_2 a0_0 a0_1 = some (r1, r2)) ∧ Aside0 (kq ≤ k1) ∧ Aside0 (Kd.R k33 33 w' w.heap.size (fun k_ => some k_ ≠ ((.slice (some ad349) t346.length co15) : Value).ownBlock) u4 x4_1) ∧ Aside0 (Kd.R k33 33 w' w.heap.size (fun k_ => some k_ ≠ (u4 : Value).ownBlock) (.slice (some ad349) t346.length co15) t346) ∧ Aside0 (w'.heap[gb341]? = some (.cells #[.int .i64 a0_0, .int .i64 a0_1] 25 (0, 0))) ∧ Aside0 (Below w.heap.size w w'))
      case atStart => exact ⟨(t350), (0), zS, zS, H', ⟨Nat.le_refl _⟩, ⟨zR HO_4⟩, ⟨zR HO_5⟩, ⟨zD BK341⟩, ⟨zB1 HB GE341⟩⟩
      case round =>
       clear H'
       try clear c3
       try clear c12
       try clear c12b0
       try clear c13
       try clear c13b0
       try clear hcz10_0
       try clear hcz10_1
       try clear hcz8_0
       try clear hcz8_1
       try clear hfz10_0
       try clear hfz10_1
       try clear hfz8_0
       try clear hfz8_1
       try clear hx349_0
       try clear hx349_1
       try clear p349
       try clear q349
       obtain ⟨x7_2, x8_2, rfl, rfl, HA, HK2, HO_4, HO_5, BK341, HB⟩ := hrel
       cases gk with
       | zero => exact absurd HA.out (by simp [spec_EssentialPrimes.l1])
       | succ k2 =>
        have H := HA.out
        clear HA
        simp only [spec_EssentialPrimes.l1] at H
        by_cases c18 : x8_2 < (t346.length : Int)
        ·rw [if_pos c18] at H
         have c18b0 : decide (x8_2 < (t346.length : Int)) = true := decide_eq_true c18
         clear c18
         by_cases c19 : x8_2 = x6_1
         ·rw [if_pos c19] at H
          have c19b0 : (x8_2 == x6_1) = true := beq_iff_eq.mpr c19
          have c19b1 : (x8_2 != x6_1) = false := bne_eq_false_iff_eq.mpr c19
          clear c19
          have H' := zA H
          clear H
          go_wp2
          go_roundg k2
          case measure => have := HK1.out; have := HK2.out; omega
          case rel => exact ⟨(x7_2), (wrap64 (x8_2 + 1)), zS, zS, H', ⟨by have := HK1.out; have := HK2.out; omega⟩, ⟨zR HO_4⟩, ⟨zR HO_5⟩, ⟨zD BK341⟩, ⟨zB1 HB GE341⟩⟩
         ·rw [if_neg c19] at H
          have c19b0 : (x8_2 == x6_1) = false := beq_eq_false_iff_ne.mpr c19
          have c19b1 : (x8_2 != x6_1) = true := bne_iff_ne.mpr c19
          by_cases c20 : 0 ≤ x8_2
          ·rw [if_pos c20] at H
           have c20b0 : decide (0 ≤ x8_2) = true := decide_eq_true c20
           clear c20
           replace H := Option.bind_eq_some_iff.mp H
           obtain ⟨t352, A210, H⟩ := H
           replace H : (spec_EssentialPrimes.l1 k2 x4_1 t346 x6_1 (wrap64 (x7_2 - (Go.bits .and .i64 x7_2 t352))) (wrap64 (x8_2 + 1)) a0_0 a0_1) = some (r1, r2) := H
           have A21 := zA A210
           clear A210
           have H' := zA H
           clear H
           try go_wp2
           have n0_ := zA (Kd.R_drew HO_4.out)
           have n1_ := zA (Kd.R_drew HO_5.out)
           have n2_ := zA (blk_drew BK341.out)
           have n3_ := zA (below_drew1 HB.out)
           clear HO_4
           clear HO_5
           clear BK341
           clear HB
           have HO_4 := n0_
           have HO_5 := n1_
           have BK341 := n2_
           have HB := n3_
           clear n0_ n1_ n2_ n3_
           have p351 : 0 ≤ (x8_2 : Int) := of_decide_eq_true (by first | (with_reducible assumption) | assumption)
           have q351 : x8_2 < (t346.length : Int) := of_decide_eq_true (by first | (with_reducible assumption) | assumption)
           obtain ⟨ad351, e351, hx351_0, hx351_1⟩ := at_T33 (Kd.R_reads' HO_5.out).2.2 x8_2 p351 q351
           obtain rfl : ad349 = ad351 := (by injection e351)
           replace p351 := eq_true p351
           replace q351 := eq_true q351
           refine start_ (n := 12) (S := fun w' => w'.cell? ⟨gb341, 0, none⟩ = some (.int .i64 a0_0) ∧ w'.cell? ⟨gb341, 1, none⟩ = some (.int .i64 a0_1) ∧ w'.cell? (ad349.add ((x8_2).toNat * 2)) = some (.int .i64 ((rd_T33 t346 x8_2).f0)) ∧ w'.cell? ⟨(ad349.add ((x8_2).toNat * 2)).block, (ad349.add ((x8_2).toNat * 2)).off + 1, none⟩ = some (.int .i64 ((rd_T33 t346 x8_2).f1))) (ds := []) #[false, false, false, false, false, false, false, false, false, false, false, false] (by kernel_rfl) rfl rfl ⟨(blk_cell BK341.out 0).trans rfl, (blk_cell BK341.out 1).trans rfl, hx351_0, hx351_1⟩ (fun hHeld => ?_); refine with_tabW spec_EssentialPrimes.tab13 spec_EssentialPrimes.bits13 (fun HT_ HW_ => ?_)
           generalize wr.drew = w22 at HO_4 HO_5 BK341 HB hx351_0 hx351_1 hHeld ⊢
           refine pure_ (i := 0) (N := some 38) (v := ?_) (a' := ?_) #[true, false, false, false, false, false, false, false, false, false, false, false] rfl rfl (any_of HT_.out (by kernel_rfl)) (fun _ _ _ h => h) (Or.inl ⟨by rfl, ?_⟩) ?_ ?_
           rotate_left
           ·intro w'
            go_simp
            with_reducible rfl
           rotate_left
           ·exact zU
           refine pure_ (i := 1) (N := some 39) (v := ?_) (a' := ?_) #[true, true, false, false, false, false, false, false, false, false, false, false] rfl rfl (any_of HT_.out (by kernel_rfl)) (fun _ _ _ h => h) (Or.inl ⟨by rfl, ?_⟩) ?_ ?_
           rotate_left
           ·intro w'
            go_simp
            with_reducible rfl
           rotate_left
           ·exact zU
           refine pure_ (i := 2) (N := some 40) (v := ?_) (a' := ?_) #[true, true, true, false, false, false, false, false, false, false, false, false] rfl rfl (any_of HT_.out (by kernel_rfl)) (fun _ _ _ h => h) (Or.inl ⟨by rfl, ?_⟩) ?_ ?_
           rotate_left
           ·intro w'
            go_simp
            with_reducible rfl
           rotate_left
           ·exact zU
           refine pure_ (i := 4) (N := some 42) (v := ?_) (a' := ?_) #[true, true, true, false, true, false, false, false, false, false, false, false] rfl rfl (any_of HT_.out (by kernel_rfl)) (fun _ _ _ h => h) (Or.inl ⟨by rfl, ?_⟩) ?_ ?_
           rotate_left
           ·intro w'
            go_simp
            with_reducible rfl
           rotate_left
           ·exact zU
           refine pure_ (i := 5) (N := some 43) (v := ?_) (a' := ?_) #[true, true, true, false, true, true, false, false, false, false, false, false] rfl rfl (any_of HT_.out (by kernel_rfl)) (fun _ _ _ h => h) (Or.inl ⟨by rfl, ?_⟩) ?_ ?_
           rotate_left
           ·intro w'
            go_simp
            with_reducible rfl
           rotate_left
           ·exact zU
           refine pure_ (i := 6) (N := some 44) (v := ?_) (a' := ?_) #[true, true, true, false, true, true, true, false, false, false, false, false] rfl rfl (any_of HT_.out (by kernel_rfl)) (fun _ _ _ h => h) (Or.inl ⟨by rfl, ?_⟩) ?_ ?_
           rotate_left
           ·intro w'
            go_simp
            with_reducible rfl
           rotate_left
           ·exact zU
           refine take_ (i := 3) (N := some 41) (v := ?_) (a' := ?_) #[true, true, true, true, true, true, true, false, false, false, false, false] rfl rfl (take_ofW HT_.out HW_.out (by kernel_rfl)) (fun _ _ _ h => h) (Or.inl ⟨by rfl, ?_⟩) hHeld ?_ ?_
           rotate_left
           ·rintro w' ⟨s0, s1, s2, s3⟩
            go_simp
            with_reducible rfl
           rotate_left
           ·exact zU
           refine take_ (i := 7) (N := some 45) (v := ?_) (a' := ?_) #[true, true, true, true, true, true, true, true, false, false, false, false] rfl rfl (take_ofW HT_.out HW_.out (by kernel_rfl)) (fun _ _ _ h => h) (Or.inl ⟨by rfl, ?_⟩) hHeld ?_ ?_
           rotate_left
           ·rintro w' ⟨s0, s1, s2, s3⟩
            go_simp
            with_reducible rfl
           rotate_left
           ·exact zU
           refine one_ (i := 8) (N := some 46) #[true, true, true, true, true, true, true, true, true, false, false, false] rfl rfl (one_of HT_.out (by kernel_rfl)) (by decide) (fun K hK => ?_)
           refine goes_ Try.func43 (by kernel_rfl) rfl #[.int .i64 a0_0, .agg #[.int .i64 ((rd_T33 t346 x8_2).f0), .int .i64 ((rd_T33 t346 x8_2).f1)]] (by rfl) rfl rfl zM ?_
           with_reducible refine (spec_l6Word.calls k2 a0_0 ((rd_T33 t346 x8_2).f0) ((rd_T33 t346 x8_2).f1) t352 _ A21.out).mono ?_
           rintro e w23 ⟨rfl, hb⟩
           have HS2_ := (hb.cell (World.block_lt_of_cell? _ _ (hHeld.2.2.1))).trans (hHeld.2.2.1)
           have HS3_ := (hb.cell (World.block_lt_of_cell? _ _ (hHeld.2.2.2))).trans (hHeld.2.2.2)
           refine ⟨_, rfl, ?_⟩
           have n0_ := zA (Kd.R_below (zR HO_4) hb)
           have n1_ := zA (Kd.R_below (zR HO_5) hb)
           have n2_ := zb BK341 hb
           have n3_ := zA (below_step (zB1 HB GE341) hb)
           clear HO_4
           clear HO_5
           clear BK341
           clear HB
           have HO_4 := n0_
           have HO_5 := n1_
           have BK341 := n2_
           have HB := n3_
           clear n0_ n1_ n2_ n3_
           (try clear hb)
           (try clear hb2)
           (try clear hk)
           (try clear hi)
           refine hK.out _ _ ⟨(blk_cell BK341.out 0).trans rfl, (blk_cell BK341.out 1).trans rfl, HS2_, HS3_⟩ (fun hHeld => ?_)
           clear hK K
           refine norm_ (a' := ?_) ?_ ?_
           rotate_left
           ·show Act.put _ (some 46) _ = _
            simp only [Act.put, List.setIfInBounds_toArray, List.set_cons_zero, List.set_cons_succ, i64_w, i32_w]
            rfl
           refine pure_ (i := 9) (N := some 47) (v := ?_) (a' := ?_) #[true, true, true, true, true, true, true, true, true, true, false, false] rfl rfl (any_of HT_.out (by kernel_rfl)) (fun _ _ _ h => h) (Or.inl ⟨by rfl, ?_⟩) ?_ ?_
           rotate_left
           ·intro w'
            go_simp
            with_reducible rfl
           rotate_left
           ·exact zU
           refine pure_ (i := 10) (N := some 48) (v := ?_) (a' := ?_) #[true, true, true, true, true, true, true, true, true, true, true, false] rfl rfl (any_of HT_.out (by kernel_rfl)) (fun _ _ _ h => h) (Or.inl ⟨by rfl, ?_⟩) ?_ ?_
           rotate_left
           ·intro w'
            go_simp
            with_reducible rfl
           rotate_left
           ·exact zU
           refine pure_ (i := 11) (N := some 7) (v := ?_) (a' := ?_) #[true, true, true, true, true, true, true, true, true, true, true, true] rfl rfl (any_of HT_.out (by kernel_rfl)) (fun _ _ _ h => h) (Or.inl ⟨by rfl, ?_⟩) ?_ ?_
           rotate_left
           ·intro w'
            go_simp
            with_reducible rfl
           rotate_left
           ·exact zU
           refine done_ (done_of HT_.out (by kernel_rfl)) ?_
           try go_wp2
           go_roundg k2
           case measure => have := HK1.out; have := HK2.out; omega
           case rel => exact ⟨(wrap64 (x7_2 - (Go.bits .and .i64 x7_2 t352))), (wrap64 (x8_2 + 1)), zS, zS, H', ⟨by have := HK1.out; have := HK2.out; omega⟩, ⟨zR HO_4⟩, ⟨zR HO_5⟩, ⟨zD BK341⟩, ⟨zB1 HB GE341⟩⟩
          ·rw [if_neg c20] at H
           exact absurd H (by simp)
        ·rw [if_neg c18] at H
         have c18b0 : decide (x8_2 < (t346.length : Int)) = false := decide_eq_false c18
         clear c18
         by_cases c24 : x7_2 > 0
         ·rw [if_pos c24] at H
          have c24b0 : decide (0 < x7_2) = true := decide_eq_true c24
          clear c24
          by_cases c25 : 0 ≤ x6_1
          ·rw [if_pos c25] at H
           have c25b0 : decide (0 ≤ x6_1) = true := decide_eq_true c25
           clear c25
           by_cases c26 : x6_1 < (t346.length : Int)
           ·rw [if_pos c26] at H
            have c26b0 : decide (x6_1 < (t346.length : Int)) = true := decide_eq_true c26
            clear c26
            by_cases c27 : x4_1.length < 8796093022208
            ·rw [if_pos c27] at H
             have LMc27 := zA c27
             clear c27
             obtain ⟨y354, hy354⟩ : ∃ y_ : List (S33), y_ = (x4_1 ++ [(⟨(rd_T33 t346 x6_1).f0, (rd_T33 t346 x6_1).f1⟩ : S33)]) := ⟨_, rfl⟩
             replace H : (spec_EssentialPrimes.l0 k2 y354 t346 (wrap64 (x6_1 + 1)) a0_0 a0_1) = some (r1, r2) := by first | (rw [hy354]; with_reducible exact H) | (have H2_ := (Option.bind_some _ _).symm.trans H; rw [hy354]; with_reducible exact H2_) | (have H2_ := (Option.bind_some _ _).symm.trans H; with_reducible exact H2_) | with_reducible exact H | (rw [hy354]; exact H) | exact H
             have Ny354 := zA hy354
             clear hy354
             have H' := zA H
             clear H
             have p353 : 0 ≤ (x6_1 : Int) := of_decide_eq_true (by first | (with_reducible assumption) | assumption)
             have q353 : x6_1 < (t346.length : Int) := of_decide_eq_true (by first | (with_reducible assumption) | assumption)
             obtain ⟨ad353, e353, hx353_0, hx353_1⟩ := at_T33 (Kd.R_reads' HO_5.out).2.2 x6_1 p353 q353
             obtain rfl : ad349 = ad353 := (by injection e353)
             replace p353 := eq_true p353
             replace q353 := eq_true q353
             go_wp2_with (first | ((with_reducible refine gate_builtin (b := .append) (xs := #[.tmp 51, .tmp 56]) rfl ?_); at_builtin; refine Kd.R_append k33 (w0 := w) w.heap.size rfl (.tmp 51) (.tmp 56) 27 33 (.agg #[(.int .i64 0), (.int .i64 0)]) 16 rfl Try.underlying27 info33 rfl (by decide) (by omega) u4 x4_1 (⟨(rd_T33 t346 x6_1).f0, (rd_T33 t346 x6_1).f1⟩ : S33) [.int .i64 ((rd_T33 t346 x6_1).f0), .int .i64 ((rd_T33 t346 x6_1).f1)] (fun k_ => some k_ ≠ (.slice (some ad349) t346.length co15 : Value).ownBlock) (fun _ => False) rfl rfl ?aP (fun _ hk => hk.elim) ?aF ?aO ?aB ?aS ?aL ?_; (case aP => exact k33_mkM _ _ _ (⟨(rd_T33 t346 x6_1).f0, (rd_T33 t346 x6_1).f1⟩ : S33)); (case aB => exact (zB1 HB GE341)); (case aF => exact (fun k_ hk => Kd.fresh' (Kd.R_lt (zR HO_5)) k_ hk)); (case aO => exact (zR HO_4)); (case aS => exact (below_size (zB1 HB GE341))); (case aL => have := LMc27.out; omega); intro v355 w28 ho hb hg hat; rw [← Ny354.out] at ho; have n0_ := zA (Kd.R_after (ok := (fun _ => True)) (by (with_reducible repeat (first | apply Kd.R_alloc | apply Kd.R_drewN | apply Kd.R_drew)); exact Kd.R_mono HO_5.out (fun _ hk => ⟨trivial, hk⟩)) hg hat); have n1_ := zA (blk_grown (g := gb341) (o := .cells #[.int .i64 a0_0, .int .i64 a0_1] 25 (0, 0)) (zD BK341) hg (Kd.R_ne HO_4.out BK341.out (by decide))); have n2_ := zA (hb); have n3_ := zA (ho); clear HO_5; clear BK341; clear HB; clear HO_4; have HO_5 := n0_; have BK341 := n1_; have HB := n2_; have HO356 := n3_; clear n0_ n1_ n2_ n3_; clear ho hb hg hat))
             go_roundg k2
             case measure => have := HK1.out; have := HK2.out; omega
             case rel => exact ⟨(y354), (wrap64 (x6_1 + 1)), zS, H', ⟨by have := HK1.out; have := HK2.out; omega⟩, ⟨zR HO356⟩, ⟨by (with_reducible repeat (first | apply Kd.R_alloc | apply Kd.R_drewN | apply Kd.R_drew)); exact Kd.R_mono HO_5.out (fun _ hk => hk.2)⟩, ⟨zD BK341⟩, ⟨zB1 HB GE341⟩⟩
            ·rw [if_neg c27] at H
             exact absurd H (by simp)
           ·rw [if_neg c26] at H
            exact absurd H (by simp)
          ·rw [if_neg c25] at H
           exact absurd H (by simp)
         ·rw [if_neg c24] at H
          have c24b0 : decide (0 < x7_2) = false := decide_eq_false c24
          clear c24
          have H' := zA H
          clear H
          go_wp2
          go_roundg k2
          case measure => have := HK1.out; have := HK2.out; omega
          case rel => exact ⟨(x4_1), (wrap64 (x6_1 + 1)), zS, H', ⟨by have := HK1.out; have := HK2.out; omega⟩, ⟨zR HO_4⟩, ⟨zR HO_5⟩, ⟨zD BK341⟩, ⟨zB1 HB GE341⟩⟩
     ·rw [if_neg c13] at H
      exact absurd H (by simp)
    ·rw [if_neg c12] at H
     have c12b0 : decide (x6_1 < (t346.length : Int)) = false := decide_eq_false c12
     clear c12
     simp only [Option.some.injEq, Prod.mk.injEq] at H
     obtain ⟨rfl, rfl⟩ := H
     obtain ⟨Ao29, co29, eo29⟩ := Kd.R_slice HO_5.out
     subst eo29
     go_wp2
     go_ret2
     exact ⟨_, zE, by (with_reducible repeat (first | apply Kd.R_alloc | apply Kd.R_drewN | apply Kd.R_drew)); exact Kd.R_mono HO_4.out (fun _ hk => trivial), zB1 HB GE341⟩
 ·replace c3 := Bool.eq_false_iff.mpr c3
  subst c3
  have H1 : (some (y342, false)) = some (r1, r2) := by rw [if_neg (show ¬ (false = true) by decide)] at H; exact H
  clear H
  have H := H1
  clear H1
  simp only [Option.some.injEq, Prod.mk.injEq] at H
  obtain ⟨rfl, rfl⟩ := H
  go_enter Try.func12, Try.ntmps12
  go_wp2_with (first | ((with_reducible refine gate_dst (N := 1) rfl ?_); refine box_event ?hg (N := 1) ?hd (cs := #[.int .i64 a0_0, .int .i64 a0_1]) (t := 25) ?hr ?_; (case hd => rfl); (case hg => rfl); (case hr => exact zH); intro gb341 hg w30 hbox hb; have BK341 := zA (hbox); have GW341 := zg HB hg; have GE341 := zg HB hg; replace HB := zA (below_step (zB HB) hb); clear hb hbox hg) | ((with_reducible refine gate_dst (N := 9) rfl ?_); refine Kd.R_lit k33 _ 33 ?hg (N := 9) ?hd (xs := ([] : List (S33))) (inner := []) (ok := fun _ => True) (okp := fun _ => True) ?hr ?hp (fun _ hk => hk) trivial (Below.refl _ _) (Nat.le_refl _) (by simp) ?_; (case hd => rfl); (case hg => rfl); (case hr => exact zH); (case hp => exact (Reps.none _ _)); intro v343 w31 ho32 hb hg_ hnew_; clear hg_ hnew_; (first | rw [← Ny342.out] at ho32 | (simp only [Int.reduceToNat] at ho32; rw [← Ny342.out] at ho32)); have HO344 := zA (Kd.R_lower ho32 (below_size (zB1 HB GE341))); replace BK341 := zb BK341 hb; replace HB := zA (below_step (zB1 HB GE341) hb); clear hb ho32; have hcz33_0 := zc0 BK341; have hcz33_1 := zc1 BK341; have hfz33_0 := blk_frozen BK341.out 0; have hfz33_1 := blk_frozen BK341.out 1) | ((with_reducible refine gate_callee (f := 36) rfl ?_); refine goesL_ (some 11) rfl rfl Try.func36 (by kernel_rfl) rfl #[.agg #[.int .i64 a0_0, .int .i64 a0_1]] rfl zM ?_; (with_reducible refine (spec_IsTable.calls a0_0 a0_1 false _ A2.out).mono ?_); rintro e w34 ⟨rfl, hb⟩; refine ⟨_, rfl, ?_⟩; replace HO344 := zA (Kd.R_below (zR HO344) hb); replace BK341 := zb BK341 hb; replace HB := zA (below_step (zB1 HB GE341) hb); (try clear hb); (try clear hb2); (try clear hk); (try clear hi)))
  go_ret2
  exact ⟨_, zE, by (with_reducible repeat (first | apply Kd.R_alloc | apply Kd.R_drewN | apply Kd.R_drew)); exact HO344.out, zB1 HB GE341⟩

/-! ### spec_DrawParseTerm: function 22 -/
def spec_DrawParseTerm.f (k : Nat) (l0 : List Int) : Option (Int × ByteArray) := (spec_l1New.f k l0).bind fun bt482 => ((spec_l6Named.f k l0).bind fun bt486 => ((spec_FormatTerm.f k bt486.1 bt486.2.1 bt486.2.2).bind fun t490 => ((spec_l1Below.f bt482.1 bt482.2.1 bt482.2.2 4).bind fun bt491 => (if bt491.1 = 0 then ((spec_l1Spoil.f k bt482.1 bt491.2.1 bt491.2.2 t490).bind fun bt494 => (some (bt486.1, bt494.1))) else (if bt491.1 = 1 then ((spec_l1Pick.f bt482.1 bt491.2.1 bt491.2.2 (([(⟨#[]⟩ : ByteArray), (⟨#[49]⟩ : ByteArray), (⟨#[97, 97]⟩ : ByteArray), (⟨#[98, 97]⟩ : ByteArray), (⟨#[33]⟩ : ByteArray), (⟨#[97, 33]⟩ : ByteArray), (⟨#[33, 33, 97]⟩ : ByteArray), (⟨#[102]⟩ : ByteArray), (⟨#[97, 49]⟩ : ByteArray)] : List ByteArray))).bind fun bt500 => (some (bt486.1, bt500.1))) else (some (bt486.1, t490)))))))
theorem spec_DrawParseTerm.mono : ∀ a0 k, LeO (spec_DrawParseTerm.f k a0) (spec_DrawParseTerm.f (k + 1) a0) := by
 intro a0 k
 unfold spec_DrawParseTerm.f
 repeat' first
   | (with_reducible exact spec_FormatTerm.mono _ _ _ _)
   | (with_reducible exact spec_l1New.mono _ _)
   | (with_reducible exact spec_l1Spoil.mono _ _ _ _ _)
   | (with_reducible exact spec_l6Named.mono _ _)
   | (with_reducible exact LeO.refl _)
   | (with_reducible exact LeO.none _)
   | (with_reducible refine LeO.ite ?_ ?_)
   | (with_reducible refine LeO.bind ?_ (fun _ => ?_))
   | exact spec_FormatTerm.mono _ _ _ _
   | exact spec_l1New.mono _ _
   | exact spec_l1Spoil.mono _ _ _ _ _
   | exact spec_l6Named.mono _ _
   | exact LeO.none _
   | refine LeO.ite ?_ ?_
   | refine LeO.bind ?_ (fun _ => ?_)
set_option maxHeartbeats 8000000 in
set_option maxRecDepth 100000 in
theorem spec_DrawParseTerm.calls (k : Nat) (A0 : Option Addr) (c0 : Nat) (l0 : List Int) (r1 : Int) (r2 : ByteArray) (w : World) (hr0 : Kd.C (Kd.int .u8) w A0 l0.length l0) (hc0 : l0.length ≤ c0) (h : spec_DrawParseTerm.f k l0 = some (r1, r2)) :
  Calls Try.prog 22 #[.slice A0 l0.length c0] w fun e w' => e = .returned (.tuple #[.int .i64 r1, .string r2]) ∧ Below w.heap.size w w' := by
 have hu33 := Try.underlying33
 have HR0 := zA hr0
 have HC0 := zA hc0
 clear hr0 hc0
 have HB := zA (Below.refl w.heap.size w)
 have H := h
 unfold spec_DrawParseTerm.f at H
 clear h
 replace H := Option.bind_eq_some_iff.mp H
 obtain ⟨⟨t482, t483, t484⟩, A20, H⟩ := H
 have A2 := zA A20
 clear A20
 replace H := Option.bind_eq_some_iff.mp H
 obtain ⟨⟨t486, t487, t488⟩, A30, H⟩ := H
 have A3 := zA A30
 clear A30
 replace H := Option.bind_eq_some_iff.mp H
 obtain ⟨t490, A40, H⟩ := H
 have A4 := zA A40
 clear A40
 replace H := Option.bind_eq_some_iff.mp H
 obtain ⟨⟨t491, t492, t493⟩, A50, H⟩ := H
 replace H : (if t491 = 0 then ((spec_l1Spoil.f k t482 t492 t493 t490).bind fun bt494 => (some (t486, bt494.1))) else (if t491 = 1 then ((spec_l1Pick.f t482 t492 t493 (([(⟨#[]⟩ : ByteArray), (⟨#[49]⟩ : ByteArray), (⟨#[97, 97]⟩ : ByteArray), (⟨#[98, 97]⟩ : ByteArray), (⟨#[33]⟩ : ByteArray), (⟨#[97, 33]⟩ : ByteArray), (⟨#[33, 33, 97]⟩ : ByteArray), (⟨#[102]⟩ : ByteArray), (⟨#[97, 49]⟩ : ByteArray)] : List ByteArray))).bind fun bt500 => (some (t486, bt500.1))) else (some (t486, t490)))) = some (r1, r2) := H
 have A5 := zA A50
 clear A50
 by_cases c6 : t491 = 0
 ·rw [if_pos c6] at H
  have c6b0 : (t491 == 0) = true := beq_iff_eq.mpr c6
  have c6b1 : (t491 != 0) = false := bne_eq_false_iff_eq.mpr c6
  clear c6
  replace H := Option.bind_eq_some_iff.mp H
  obtain ⟨⟨t494, t495, t496⟩, A70, H⟩ := H
  replace H : (some (t486, t494)) = some (r1, r2) := H
  have A7 := zA A70
  clear A70
  simp only [Option.some.injEq, Prod.mk.injEq] at H
  obtain ⟨rfl, rfl⟩ := H
  go_enter Try.func22, Try.ntmps22
  go_wp2_with (first | ((with_reducible refine gate_callee (f := 33) rfl ?_); refine goesL_ (some 9) rfl rfl Try.func33 (by kernel_rfl) rfl #[.slice A0 l0.length c0] rfl zM ?_; (with_reducible refine (spec_l1New.calls k _ _ l0 t482 t483 t484 w _ ?side1 ?side2 ?side3 A2.out).mono ?_); (case side1 => exact zB HB); (case side2 => exact HR0.out); (case side3 => exact HC0.out); rintro e w8 ⟨g485, rfl, hi, hb, hb2⟩; refine ⟨_, rfl, ?_⟩; have HI485 := zA (hi); replace HB := zA (hb); (try clear hb); (try clear hb2); (try clear hk); (try clear hi)) | ((with_reducible refine gate_callee (f := 47) rfl ?_); refine goesL_ (some 12) rfl rfl Try.func47 (by kernel_rfl) rfl #[.slice A0 l0.length c0] rfl zM ?_; (with_reducible refine (spec_l6Named.calls k _ _ l0 t486 t487 t488 _ ?side1 ?side2 A3.out).mono ?_); (case side1 => exact zC (Kd.C_below HR0.out HB.out)); (case side2 => exact HC0.out); rintro e w9 ⟨rfl, hb⟩; refine ⟨_, rfl, ?_⟩; replace HB := zA (below_step (zB1 HB (zA (IsS77.ge HI485.out))) hb); replace HI485 := zA (IsS77.below (zI HI485) hb); (try clear hb); (try clear hb2); (try clear hk); (try clear hi)) | ((with_reducible refine gate_dst (N := 6) rfl ?_); refine box_event ?hg (N := 6) ?hd (cs := #[.int .i64 0, .int .i64 0]) (t := 33) ?hr ?_; (case hd => rfl); (case hg => rfl); (case hr => exact zH); intro gb489 hg w10 hbox hb; have BK489 := zA (hbox); have GW489 := zA ((by rw [hg]; exact (below_size (zB1 HB (zA (IsS77.ge HI485.out)))) : w.heap.size ≤ gb489)); have GE489 := zA ((by rw [hg]; exact (below_size (zB1 HB (zA (IsS77.ge HI485.out)))) : w.heap.size ≤ gb489)); have NB485_489 := zA ((by rw [hg]; exact Nat.ne_of_lt (IsS77.lt (show IsS77 w _ g485 t482 t483 t484 from zI HI485)) : g485 ≠ gb489)); have NB489_485 := zA ((by rw [hg]; exact Nat.ne_of_gt (IsS77.lt (show IsS77 w _ g485 t482 t483 t484 from zI HI485)) : gb489 ≠ g485)); replace HB := zA (below_step (zB1 HB (zA (IsS77.ge HI485.out))) hb); replace HI485 := zA (IsS77.below (zI HI485) hb); clear hb hbox hg; have hnb11 := NB489_485.out; have hnc11 := NB485_489.out; have hcz12_0 := zc0 BK489; have hcz12_1 := zc1 BK489; have hfz12_0 := blk_frozen BK489.out 0; have hfz12_1 := blk_frozen BK489.out 1) | ((with_reducible refine gate_callee (f := 19) rfl ?_); refine goesL_ (some 17) rfl rfl Try.func19 (by kernel_rfl) rfl #[.int .i64 t486, .agg #[.int .i64 t487, .int .i64 t488]] rfl zM ?_; (with_reducible refine (spec_FormatTerm.calls k t486 t487 t488 t490 _ A4.out).mono ?_); rintro e w13 ⟨rfl, hb⟩; refine ⟨_, rfl, ?_⟩; replace BK489 := zp BK489 hb; replace HB := zA (below_step (zB2 HB (zA (IsS77.ge HI485.out)) GE489) hb); replace HI485 := zA (IsS77.below (show IsS77 w ((w10.setCell ⟨gb489, 0, none⟩ (.int .i64 t487)).setCell ⟨gb489, 1, none⟩ (.int .i64 t488)) g485 t482 t483 t484 from zI1 HI485 NB485_489) hb); (try clear hb); (try clear hb2); (try clear hk); (try clear hi)) | ((with_reducible refine gate_callee (f := 52) rfl ?_); refine goesL_ (some 19) rfl rfl Try.func52 (by kernel_rfl) rfl #[.pointer (some ⟨g485, 0, none⟩), .int .i64 4] rfl zM ?_; (with_reducible refine (spec_l1Below.calls g485 t482 t483 t484 4 t491 t492 t493 w _ ?side1 ?side2 A5.out).mono ?_); (case side1 => exact zI1 HI485 NB485_489); (case side2 => exact zB2 HB (zA (IsS77.ge HI485.out)) GE489); rintro e w14 ⟨rfl, hi, hb, hk⟩; refine ⟨_, rfl, ?_⟩; replace BK489 := zA (KeepBut.blk hk (g' := gb489) (o := .cells #[.int .i64 t487, .int .i64 t488] 33 (0, 0)) (zD BK489) NB489_485.out (by simp)); replace HB := zA (hb); replace HI485 := zA (hi); (try clear hb); (try clear hb2); (try clear hk); (try clear hi)) | ((with_reducible refine gate_callee (f := 53) rfl ?_); refine goesL_ (some 25) rfl rfl Try.func53 (by kernel_rfl) rfl #[.pointer (some ⟨g485, 0, none⟩), .string t490] rfl zM ?_; (with_reducible refine (spec_l1Spoil.calls k g485 t482 t492 t493 t490 t494 t495 t496 w _ ?side1 ?side2 A7.out).mono ?_); (case side1 => exact zI1 HI485 NB485_489); (case side2 => exact zB2 HB (zA (IsS77.ge HI485.out)) GE489); rintro e w15 ⟨rfl, hi, hb, hk⟩; refine ⟨_, rfl, ?_⟩; replace BK489 := zA (KeepBut.blk hk (g' := gb489) (o := .cells #[.int .i64 t487, .int .i64 t488] 33 (0, 0)) (zD BK489) NB489_485.out (by simp)); replace HB := zA (hb); replace HI485 := zA (hi); (try clear hb); (try clear hb2); (try clear hk); (try clear hi)))
  go_ret2
  exact ⟨zE, zB2 HB (zA (IsS77.ge HI485.out)) GE489⟩
 ·rw [if_neg c6] at H
  have c6b0 : (t491 == 0) = false := beq_eq_false_iff_ne.mpr c6
  have c6b1 : (t491 != 0) = true := bne_iff_ne.mpr c6
  by_cases c16 : t491 = 1
  ·rw [if_pos c16] at H
   have c16b0 : (t491 == 1) = true := beq_iff_eq.mpr c16
   have c16b1 : (t491 != 1) = false := bne_eq_false_iff_eq.mpr c16
   clear c16
   obtain ⟨y497, hy497⟩ : ∃ y_ : List ByteArray, y_ = (([(⟨#[]⟩ : ByteArray), (⟨#[49]⟩ : ByteArray), (⟨#[97, 97]⟩ : ByteArray), (⟨#[98, 97]⟩ : ByteArray), (⟨#[33]⟩ : ByteArray), (⟨#[97, 33]⟩ : ByteArray), (⟨#[33, 33, 97]⟩ : ByteArray), (⟨#[102]⟩ : ByteArray), (⟨#[97, 49]⟩ : ByteArray)] : List ByteArray)) := ⟨_, rfl⟩
   replace H : ((spec_l1Pick.f t482 t492 t493 y497).bind fun bt500 => (some (t486, bt500.1))) = some (r1, r2) := by first | (rw [hy497]; with_reducible exact H) | (have H2_ := (Option.bind_some _ _).symm.trans H; rw [hy497]; with_reducible exact H2_) | (have H2_ := (Option.bind_some _ _).symm.trans H; with_reducible exact H2_) | with_reducible exact H | (rw [hy497]; exact H) | exact H
   have Ny497 := zA hy497
   clear hy497
   replace H := Option.bind_eq_some_iff.mp H
   obtain ⟨⟨t500, t501, t502⟩, A170, H⟩ := H
   replace H : (some (t486, t500)) = some (r1, r2) := H
   have A17 := zA A170
   clear A170
   simp only [Option.some.injEq, Prod.mk.injEq] at H
   obtain ⟨rfl, rfl⟩ := H
   go_enter Try.func22, Try.ntmps22
   go_wp2_with (first | ((with_reducible refine gate_callee (f := 33) rfl ?_); refine goesL_ (some 9) rfl rfl Try.func33 (by kernel_rfl) rfl #[.slice A0 l0.length c0] rfl zM ?_; (with_reducible refine (spec_l1New.calls k _ _ l0 t482 t483 t484 w _ ?side1 ?side2 ?side3 A2.out).mono ?_); (case side1 => exact zB HB); (case side2 => exact HR0.out); (case side3 => exact HC0.out); rintro e w18 ⟨g485, rfl, hi, hb, hb2⟩; refine ⟨_, rfl, ?_⟩; have HI485 := zA (hi); replace HB := zA (hb); (try clear hb); (try clear hb2); (try clear hk); (try clear hi)) | ((with_reducible refine gate_callee (f := 47) rfl ?_); refine goesL_ (some 12) rfl rfl Try.func47 (by kernel_rfl) rfl #[.slice A0 l0.length c0] rfl zM ?_; (with_reducible refine (spec_l6Named.calls k _ _ l0 t486 t487 t488 _ ?side1 ?side2 A3.out).mono ?_); (case side1 => exact zC (Kd.C_below HR0.out HB.out)); (case side2 => exact HC0.out); rintro e w19 ⟨rfl, hb⟩; refine ⟨_, rfl, ?_⟩; replace HB := zA (below_step (zB1 HB (zA (IsS77.ge HI485.out))) hb); replace HI485 := zA (IsS77.below (zI HI485) hb); (try clear hb); (try clear hb2); (try clear hk); (try clear hi)) | ((with_reducible refine gate_dst (N := 6) rfl ?_); refine box_event ?hg (N := 6) ?hd (cs := #[.int .i64 0, .int .i64 0]) (t := 33) ?hr ?_; (case hd => rfl); (case hg => rfl); (case hr => exact zH); intro gb489 hg w20 hbox hb; have BK489 := zA (hbox); have GW489 := zA ((by rw [hg]; exact (below_size (zB1 HB (zA (IsS77.ge HI485.out)))) : w.heap.size ≤ gb489)); have GE489 := zA ((by rw [hg]; exact (below_size (zB1 HB (zA (IsS77.ge HI485.out)))) : w.heap.size ≤ gb489)); have NB485_489 := zA ((by rw [hg]; exact Nat.ne_of_lt (IsS77.lt (show IsS77 w _ g485 t482 t483 t484 from zI HI485)) : g485 ≠ gb489)); have NB489_485 := zA ((by rw [hg]; exact Nat.ne_of_gt (IsS77.lt (show IsS77 w _ g485 t482 t483 t484 from zI HI485)) : gb489 ≠ g485)); replace HB := zA (below_step (zB1 HB (zA (IsS77.ge HI485.out))) hb); replace HI485 := zA (IsS77.below (zI HI485) hb); clear hb hbox hg; have hnb21 := NB489_485.out; have hnc21 := NB485_489.out; have hcz22_0 := zc0 BK489; have hcz22_1 := zc1 BK489; have hfz22_0 := blk_frozen BK489.out 0; have hfz22_1 := blk_frozen BK489.out 1) | ((with_reducible refine gate_callee (f := 19) rfl ?_); refine goesL_ (some 17) rfl rfl Try.func19 (by kernel_rfl) rfl #[.int .i64 t486, .agg #[.int .i64 t487, .int .i64 t488]] rfl zM ?_; (with_reducible refine (spec_FormatTerm.calls k t486 t487 t488 t490 _ A4.out).mono ?_); rintro e w23 ⟨rfl, hb⟩; refine ⟨_, rfl, ?_⟩; replace BK489 := zp BK489 hb; replace HB := zA (below_step (zB2 HB (zA (IsS77.ge HI485.out)) GE489) hb); replace HI485 := zA (IsS77.below (show IsS77 w ((w20.setCell ⟨gb489, 0, none⟩ (.int .i64 t487)).setCell ⟨gb489, 1, none⟩ (.int .i64 t488)) g485 t482 t483 t484 from zI1 HI485 NB485_489) hb); (try clear hb); (try clear hb2); (try clear hk); (try clear hi)) | ((with_reducible refine gate_callee (f := 52) rfl ?_); refine goesL_ (some 19) rfl rfl Try.func52 (by kernel_rfl) rfl #[.pointer (some ⟨g485, 0, none⟩), .int .i64 4] rfl zM ?_; (with_reducible refine (spec_l1Below.calls g485 t482 t483 t484 4 t491 t492 t493 w _ ?side1 ?side2 A5.out).mono ?_); (case side1 => exact zI1 HI485 NB485_489); (case side2 => exact zB2 HB (zA (IsS77.ge HI485.out)) GE489); rintro e w24 ⟨rfl, hi, hb, hk⟩; refine ⟨_, rfl, ?_⟩; replace BK489 := zA (KeepBut.blk hk (g' := gb489) (o := .cells #[.int .i64 t487, .int .i64 t488] 33 (0, 0)) (zD BK489) NB489_485.out (by simp)); replace HB := zA (hb); replace HI485 := zA (hi); (try clear hb); (try clear hb2); (try clear hk); (try clear hi)) | ((with_reducible refine gate_dst (N := 30) rfl ?_); refine Kd.R_lit Kd.string _ 9 ?hg (N := 30) ?hd (xs := ([(⟨#[]⟩ : ByteArray), (⟨#[49]⟩ : ByteArray), (⟨#[97, 97]⟩ : ByteArray), (⟨#[98, 97]⟩ : ByteArray), (⟨#[33]⟩ : ByteArray), (⟨#[97, 33]⟩ : ByteArray), (⟨#[33, 33, 97]⟩ : ByteArray), (⟨#[102]⟩ : ByteArray), (⟨#[97, 49]⟩ : ByteArray)] : List ByteArray)) (inner := [.string (⟨#[]⟩ : ByteArray), .string (⟨#[49]⟩ : ByteArray), .string (⟨#[97, 97]⟩ : ByteArray), .string (⟨#[98, 97]⟩ : ByteArray), .string (⟨#[33]⟩ : ByteArray), .string (⟨#[97, 33]⟩ : ByteArray), .string (⟨#[33, 33, 97]⟩ : ByteArray), .string (⟨#[102]⟩ : ByteArray), .string (⟨#[97, 49]⟩ : ByteArray)]) (ok := fun _ => True) (okp := fun _ => True) ?hr ?hp (fun _ hk => hk) trivial (Below.refl _ _) (Nat.le_refl _) (by simp) ?_; (case hd => rfl); (case hg => rfl); (case hr => exact zH); (case hp => exact (Reps.one (show Kd.M Kd.string _ _ _ (⟨#[]⟩ : ByteArray) [.string (⟨#[]⟩ : ByteArray)] from rfl) (Reps.one (show Kd.M Kd.string _ _ _ (⟨#[49]⟩ : ByteArray) [.string (⟨#[49]⟩ : ByteArray)] from rfl) (Reps.one (show Kd.M Kd.string _ _ _ (⟨#[97, 97]⟩ : ByteArray) [.string (⟨#[97, 97]⟩ : ByteArray)] from rfl) (Reps.one (show Kd.M Kd.string _ _ _ (⟨#[98, 97]⟩ : ByteArray) [.string (⟨#[98, 97]⟩ : ByteArray)] from rfl) (Reps.one (show Kd.M Kd.string _ _ _ (⟨#[33]⟩ : ByteArray) [.string (⟨#[33]⟩ : ByteArray)] from rfl) (Reps.one (show Kd.M Kd.string _ _ _ (⟨#[97, 33]⟩ : ByteArray) [.string (⟨#[97, 33]⟩ : ByteArray)] from rfl) (Reps.one (show Kd.M Kd.string _ _ _ (⟨#[33, 33, 97]⟩ : ByteArray) [.string (⟨#[33, 33, 97]⟩ : ByteArray)] from rfl) (Reps.one (show Kd.M Kd.string _ _ _ (⟨#[102]⟩ : ByteArray) [.string (⟨#[102]⟩ : ByteArray)] from rfl) (Reps.one (show Kd.M Kd.string _ _ _ (⟨#[97, 49]⟩ : ByteArray) [.string (⟨#[97, 49]⟩ : ByteArray)] from rfl) (Reps.none _ _))))))))))); intro v498 w25 ho26 hb hg_ hnew_; clear hg_ hnew_; (first | rw [← Ny497.out] at ho26 | (simp only [Int.reduceToNat] at ho26; rw [← Ny497.out] at ho26)); have HO499 := zA (Kd.R_lower ho26 (below_size (zB2 HB (zA (IsS77.ge HI485.out)) GE489))); replace BK489 := zb BK489 hb; replace HB := zA (below_step (zB2 HB (zA (IsS77.ge HI485.out)) GE489) hb); replace HI485 := zA (IsS77.below (zI1 HI485 NB485_489) hb); clear hb ho26; obtain ⟨Ao27, co27, eo27⟩ := Kd.R_slice HO499.out; subst eo27) | ((with_reducible refine gate_callee (f := 54) rfl ?_); refine goesL_ (some 31) rfl rfl Try.func54 (by kernel_rfl) rfl #[.pointer (some ⟨g485, 0, none⟩), .slice Ao27 y497.length co27] rfl zM ?_; (with_reducible refine (spec_l1Pick.calls g485 t482 t492 t493 _ _ y497 t500 t501 t502 w _ ?side1 ?side2 ?side3 ?side4 ?side5 A17.out).mono ?_); (case side1 => exact zI1 HI485 NB485_489); (case side2 => exact zB2 HB (zA (IsS77.ge HI485.out)) GE489); (case side3 => exact zC (Kd.R_reads' HO499.out).2.2); (case side4 => exact (Kd.R_reads' HO499.out).2.1); (case side5 => exact far_slice (IsS77.own_ne HI485.out HO499.out (by decide))); rintro e w28 ⟨rfl, hi, hb, hk⟩; refine ⟨_, rfl, ?_⟩; replace BK489 := zA (KeepBut.blk hk (g' := gb489) (o := .cells #[.int .i64 t487, .int .i64 t488] 33 (0, 0)) (zD BK489) NB489_485.out (by simp)); replace HO499 := zA (Kd.R_mono (Kd.R_keep (IsS77.apart (show IsS77 w _ g485 t482 t492 t493 from zI1 HI485 NB485_489) (zR HO499) (by decide)) hk (fun _ h => h.2)) (fun _ h => h.1)); replace HB := zA (hb); replace HI485 := zA (hi); (try clear hb); (try clear hb2); (try clear hk); (try clear hi)))
   go_ret2
   exact ⟨zE, zB2 HB (zA (IsS77.ge HI485.out)) GE489⟩
  ·rw [if_neg c16] at H
   have c16b0 : (t491 == 1) = false := beq_eq_false_iff_ne.mpr c16
   have c16b1 : (t491 != 1) = true := bne_iff_ne.mpr c16
   simp only [Option.some.injEq, Prod.mk.injEq] at H
   obtain ⟨rfl, rfl⟩ := H
   go_enter Try.func22, Try.ntmps22
   go_wp2_with (first | ((with_reducible refine gate_callee (f := 33) rfl ?_); refine goesL_ (some 9) rfl rfl Try.func33 (by kernel_rfl) rfl #[.slice A0 l0.length c0] rfl zM ?_; (with_reducible refine (spec_l1New.calls k _ _ l0 t482 t483 t484 w _ ?side1 ?side2 ?side3 A2.out).mono ?_); (case side1 => exact zB HB); (case side2 => exact HR0.out); (case side3 => exact HC0.out); rintro e w29 ⟨g485, rfl, hi, hb, hb2⟩; refine ⟨_, rfl, ?_⟩; have HI485 := zA (hi); replace HB := zA (hb); (try clear hb); (try clear hb2); (try clear hk); (try clear hi)) | ((with_reducible refine gate_callee (f := 47) rfl ?_); refine goesL_ (some 12) rfl rfl Try.func47 (by kernel_rfl) rfl #[.slice A0 l0.length c0] rfl zM ?_; (with_reducible refine (spec_l6Named.calls k _ _ l0 t486 t487 t488 _ ?side1 ?side2 A3.out).mono ?_); (case side1 => exact zC (Kd.C_below HR0.out HB.out)); (case side2 => exact HC0.out); rintro e w30 ⟨rfl, hb⟩; refine ⟨_, rfl, ?_⟩; replace HB := zA (below_step (zB1 HB (zA (IsS77.ge HI485.out))) hb); replace HI485 := zA (IsS77.below (zI HI485) hb); (try clear hb); (try clear hb2); (try clear hk); (try clear hi)) | ((with_reducible refine gate_dst (N := 6) rfl ?_); refine box_event ?hg (N := 6) ?hd (cs := #[.int .i64 0, .int .i64 0]) (t := 33) ?hr ?_; (case hd => rfl); (case hg => rfl); (case hr => exact zH); intro gb489 hg w31 hbox hb; have BK489 := zA (hbox); have GW489 := zA ((by rw [hg]; exact (below_size (zB1 HB (zA (IsS77.ge HI485.out)))) : w.heap.size ≤ gb489)); have GE489 := zA ((by rw [hg]; exact (below_size (zB1 HB (zA (IsS77.ge HI485.out)))) : w.heap.size ≤ gb489)); have NB485_489 := zA ((by rw [hg]; exact Nat.ne_of_lt (IsS77.lt (show IsS77 w _ g485 t482 t483 t484 from zI HI485)) : g485 ≠ gb489)); have NB489_485 := zA ((by rw [hg]; exact Nat.ne_of_gt (IsS77.lt (show IsS77 w _ g485 t482 t483 t484 from zI HI485)) : gb489 ≠ g485)); replace HB := zA (below_step (zB1 HB (zA (IsS77.ge HI485.out))) hb); replace HI485 := zA (IsS77.below (zI HI485) hb); clear hb hbox hg; have hnb32 := NB489_485.out; have hnc32 := NB485_489.out; have hcz33_0 := zc0 BK489; have hcz33_1 := zc1 BK489; have hfz33_0 := blk_frozen BK489.out 0; have hfz33_1 := blk_frozen BK489.out 1) | ((with_reducible refine gate_callee (f := 19) rfl ?_); refine goesL_ (some 17) rfl rfl Try.func19 (by kernel_rfl) rfl #[.int .i64 t486, .agg #[.int .i64 t487, .int .i64 t488]] rfl zM ?_; (with_reducible refine (spec_FormatTerm.calls k t486 t487 t488 t490 _ A4.out).mono ?_); rintro e w34 ⟨rfl, hb⟩; refine ⟨_, rfl, ?_⟩; replace BK489 := zp BK489 hb; replace HB := zA (below_step (zB2 HB (zA (IsS77.ge HI485.out)) GE489) hb); replace HI485 := zA (IsS77.below (show IsS77 w ((w31.setCell ⟨gb489, 0, none⟩ (.int .i64 t487)).setCell ⟨gb489, 1, none⟩ (.int .i64 t488)) g485 t482 t483 t484 from zI1 HI485 NB485_489) hb); (try clear hb); (try clear hb2); (try clear hk); (try clear hi)) | ((with_reducible refine gate_callee (f := 52) rfl ?_); refine goesL_ (some 19) rfl rfl Try.func52 (by kernel_rfl) rfl #[.pointer (some ⟨g485, 0, none⟩), .int .i64 4] rfl zM ?_; (with_reducible refine (spec_l1Below.calls g485 t482 t483 t484 4 t491 t492 t493 w _ ?side1 ?side2 A5.out).mono ?_); (case side1 => exact zI1 HI485 NB485_489); (case side2 => exact zB2 HB (zA (IsS77.ge HI485.out)) GE489); rintro e w35 ⟨rfl, hi, hb, hk⟩; refine ⟨_, rfl, ?_⟩; replace BK489 := zA (KeepBut.blk hk (g' := gb489) (o := .cells #[.int .i64 t487, .int .i64 t488] 33 (0, 0)) (zD BK489) NB489_485.out (by simp)); replace HB := zA (hb); replace HI485 := zA (hi); (try clear hb); (try clear hb2); (try clear hk); (try clear hi)))
   go_ret2
   exact ⟨zE, zB2 HB (zA (IsS77.ge HI485.out)) GE489⟩

end Go.Proofs.Ytfiejicdlaknnaa.P
