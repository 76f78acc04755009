/- The functions that this seat's laws reach, each as a plain Lean function, and the walk of each; written by a program over the kit's print. No conditions but those that stand in the theorems. -/
import Derived.Test.YtfiejicdlaknnaaK2
import Derived.Test.YtfiejicdlaknnaaK3
namespace Go.Proofs.Ytfiejicdlaknnaa.P
open Go.RowKit Go.Proofs.YtfiejicdlaknnaaW.PrintWords Go.Proofs.YtfiejicdlaknnaaW.PrintLast Go.Proofs.YtfiejicdlaknnaaW.PrintMore
attribute [local go_sem] max2_int min2_int max_two min_two max_three min_three max_four min_four   -- for this text's walks alone
set_option linter.unusedVariables false
set_option linter.unusedSimpArgs false

attribute [local go_sem] fld25_0 fld25_1
/-! ### spec_l1Below: function 52 -/
def spec_l1Below.f (s0_0 : List Int) (s0_1 : Int) (s0_2 : Int) (a1 : Int) : Option (Int × Int × Int) := if a1 ≤ 0 then (some (0, s0_1, s0_2)) else (if a1 ≤ 256 then ((spec_l1Byte.f s0_0 s0_1 s0_2).bind fun bt102 => (if a1 = 0 then (none) else (some (Int.tmod bt102.1 a1, bt102.2.1, bt102.2.2)))) else ((spec_l1Byte.f s0_0 s0_1 s0_2).bind fun bt105 => ((spec_l1Byte.f s0_0 bt105.2.1 bt105.2.2).bind fun bt108 => ((spec_l1Byte.f s0_0 bt108.2.1 bt108.2.2).bind fun bt111 => ((spec_l1Byte.f s0_0 bt111.2.1 bt111.2.2).bind fun bt114 => (if a1 = 0 then (none) else (some (Int.tmod (wrap64 ((wrap64 ((wrap64 ((wrap64 (bt105.1 * 16777216)) + (wrap64 (bt108.1 * 65536)))) + (wrap64 (bt111.1 * 256)))) + bt114.1)) a1, bt114.2.1, bt114.2.2))))))))
set_option maxHeartbeats 8000000 in
set_option maxRecDepth 100000 in
theorem spec_l1Below.calls (g : Nat) (s0_0 : List Int) (s0_1 : Int) (s0_2 : Int) (a1 : Int) (r1 : Int) (r2 : Int) (r3 : Int) (w0 w : World) (hI : IsS77 w0 w g s0_0 s0_1 s0_2) (hB : Below w0.heap.size w0 w) (h : spec_l1Below.f s0_0 s0_1 s0_2 a1 = some (r1, r2, r3)) :
  Calls Try.prog 52 #[.pointer (some ⟨g, 0, none⟩), .int .i64 a1] w fun e w' => e = .returned (.int .i64 r1) ∧ IsS77 w0 w' g s0_0 r2 r3 ∧ Below w0.heap.size w0 w' ∧ KeepBut w w' g none := by
 have HI0 := zA hI
 have HK := zA (KeepBut.refl w g none)
 have HL := zA hB.size
 clear hI
 have HW0 := zA hB.size
 have HB := zA hB
 clear hB
 have H := h
 unfold spec_l1Below.f at H
 clear h
 by_cases c3 : a1 ≤ 0
 ·rw [if_pos c3] at H
  have c3b0 : decide (a1 ≤ 0) = true := decide_eq_true c3
  clear c3
  simp only [Option.some.injEq, Prod.mk.injEq] at H
  obtain ⟨rfl, rfl, rfl⟩ := H
  go_enter Try.func52, Try.ntmps52
  go_wp2
  go_ret
  exact ⟨zE, zI HI0, zB1 HB (zA (IsS77.ge HI0.out)), zK HK⟩
 ·rw [if_neg c3] at H
  have c3b0 : decide (a1 ≤ 0) = false := decide_eq_false c3
  clear c3
  by_cases c4 : a1 ≤ 256
  ·rw [if_pos c4] at H
   have c4b0 : decide (a1 ≤ 256) = true := decide_eq_true c4
   clear c4
   replace H := Option.bind_eq_some_iff.mp H
   obtain ⟨⟨t102, t103, t104⟩, A50, H⟩ := H
   replace H : (if a1 = 0 then (none) else (some (Int.tmod t102 a1, t103, t104))) = some (r1, r2, r3) := H
   have A5 := zA A50
   clear A50
   by_cases c6 : a1 = 0
   ·rw [if_pos c6] at H
    exact absurd H (by simp)
   ·rw [if_neg c6] at H
    have c6b0 : (a1 == 0) = false := beq_eq_false_iff_ne.mpr c6
    have c6b1 : (a1 != 0) = true := bne_iff_ne.mpr c6
    simp only [Option.some.injEq, Prod.mk.injEq] at H
    obtain ⟨rfl, rfl, rfl⟩ := H
    go_enter Try.func52, Try.ntmps52
    go_wp2_with (first | ((with_reducible refine gate_callee (f := 70) rfl ?_); refine goesL_ (some 14) rfl rfl Try.func70 (by kernel_rfl) rfl #[.pointer (some ⟨g, 0, none⟩)] rfl zM ?_; (with_reducible refine (spec_l1Byte.calls g s0_0 s0_1 s0_2 t102 t103 t104 w0 _ ?side1 ?side2 A5.out).mono ?_); (case side1 => exact zI HI0); (case side2 => exact zB1 HB (zA (IsS77.ge HI0.out))); rintro e w7 ⟨rfl, hi, hb, hk⟩; refine ⟨_, rfl, ?_⟩; replace HK := zA (KeepBut.trans (zK HK) hk (.inl rfl)); replace HB := zA (hb); replace HI0 := zA (hi); (try clear hb); (try clear hb2); (try clear hk); (try clear hi)))
    go_ret
    exact ⟨zE, zI HI0, zB1 HB (zA (IsS77.ge HI0.out)), zK HK⟩
  ·rw [if_neg c4] at H
   have c4b0 : decide (a1 ≤ 256) = false := decide_eq_false c4
   clear c4
   replace H := Option.bind_eq_some_iff.mp H
   obtain ⟨⟨t105, t106, t107⟩, A80, H⟩ := H
   have A8 := zA A80
   clear A80
   replace H := Option.bind_eq_some_iff.mp H
   obtain ⟨⟨t108, t109, t110⟩, A90, H⟩ := H
   have A9 := zA A90
   clear A90
   replace H := Option.bind_eq_some_iff.mp H
   obtain ⟨⟨t111, t112, t113⟩, A100, H⟩ := H
   have A10 := zA A100
   clear A100
   replace H := Option.bind_eq_some_iff.mp H
   obtain ⟨⟨t114, t115, t116⟩, A110, H⟩ := H
   replace H : (if a1 = 0 then (none) else (some (Int.tmod (wrap64 ((wrap64 ((wrap64 ((wrap64 (t105 * 16777216)) + (wrap64 (t108 * 65536)))) + (wrap64 (t111 * 256)))) + t114)) a1, t115, t116))) = some (r1, r2, r3) := H
   have A11 := zA A110
   clear A110
   by_cases c12 : a1 = 0
   ·rw [if_pos c12] at H
    exact absurd H (by simp)
   ·rw [if_neg c12] at H
    have c12b0 : (a1 == 0) = false := beq_eq_false_iff_ne.mpr c12
    have c12b1 : (a1 != 0) = true := bne_iff_ne.mpr c12
    simp only [Option.some.injEq, Prod.mk.injEq] at H
    obtain ⟨rfl, rfl, rfl⟩ := H
    go_enter Try.func52, Try.ntmps52
    go_wp2_with (first | ((with_reducible refine gate_callee (f := 70) rfl ?_); refine goesL_ (some 18) rfl rfl Try.func70 (by kernel_rfl) rfl #[.pointer (some ⟨g, 0, none⟩)] rfl zM ?_; (with_reducible refine (spec_l1Byte.calls g s0_0 s0_1 s0_2 t105 t106 t107 w0 _ ?side1 ?side2 A8.out).mono ?_); (case side1 => exact zI HI0); (case side2 => exact zB1 HB (zA (IsS77.ge HI0.out))); rintro e w13 ⟨rfl, hi, hb, hk⟩; refine ⟨_, rfl, ?_⟩; replace HK := zA (KeepBut.trans (zK HK) hk (.inl rfl)); replace HB := zA (hb); replace HI0 := zA (hi); (try clear hb); (try clear hb2); (try clear hk); (try clear hi)) | ((with_reducible refine gate_callee (f := 70) rfl ?_); refine goesL_ (some 20) rfl rfl Try.func70 (by kernel_rfl) rfl #[.pointer (some ⟨g, 0, none⟩)] rfl zM ?_; (with_reducible refine (spec_l1Byte.calls g s0_0 t106 t107 t108 t109 t110 w0 _ ?side1 ?side2 A9.out).mono ?_); (case side1 => exact zI HI0); (case side2 => exact zB1 HB (zA (IsS77.ge HI0.out))); rintro e w14 ⟨rfl, hi, hb, hk⟩; refine ⟨_, rfl, ?_⟩; replace HK := zA (KeepBut.trans (zK HK) hk (.inl rfl)); replace HB := zA (hb); replace HI0 := zA (hi); (try clear hb); (try clear hb2); (try clear hk); (try clear hi)) | ((with_reducible refine gate_callee (f := 70) rfl ?_); refine goesL_ (some 22) rfl rfl Try.func70 (by kernel_rfl) rfl #[.pointer (some ⟨g, 0, none⟩)] rfl zM ?_; (with_reducible refine (spec_l1Byte.calls g s0_0 t109 t110 t111 t112 t113 w0 _ ?side1 ?side2 A10.out).mono ?_); (case side1 => exact zI HI0); (case side2 => exact zB1 HB (zA (IsS77.ge HI0.out))); rintro e w15 ⟨rfl, hi, hb, hk⟩; refine ⟨_, rfl, ?_⟩; replace HK := zA (KeepBut.trans (zK HK) hk (.inl rfl)); replace HB := zA (hb); replace HI0 := zA (hi); (try clear hb); (try clear hb2); (try clear hk); (try clear hi)) | ((with_reducible refine gate_callee (f := 70) rfl ?_); refine goesL_ (some 24) rfl rfl Try.func70 (by kernel_rfl) rfl #[.pointer (some ⟨g, 0, none⟩)] rfl zM ?_; (with_reducible refine (spec_l1Byte.calls g s0_0 t112 t113 t114 t115 t116 w0 _ ?side1 ?side2 A11.out).mono ?_); (case side1 => exact zI HI0); (case side2 => exact zB1 HB (zA (IsS77.ge HI0.out))); rintro e w16 ⟨rfl, hi, hb, hk⟩; refine ⟨_, rfl, ?_⟩; replace HK := zA (KeepBut.trans (zK HK) hk (.inl rfl)); replace HB := zA (hb); replace HI0 := zA (hi); (try clear hb); (try clear hb2); (try clear hk); (try clear hi)))
    go_ret
    exact ⟨zE, zI HI0, zB1 HB (zA (IsS77.ge HI0.out)), zK HK⟩

/-! ### spec_l1PickInt: function 57 -/
def spec_l1PickInt.f (s0_0 : List Int) (s0_1 : Int) (s0_2 : Int) (l1 : List Int) : Option (Int × Int × Int) := (spec_l1Below.f s0_0 s0_1 s0_2 (l1.length : Int)).bind fun bt117 => (if 0 ≤ bt117.1 then (if bt117.1 < (l1.length : Int) then (some (rd l1 bt117.1, bt117.2.1, bt117.2.2)) else (none)) else (none))
set_option maxHeartbeats 8000000 in
set_option maxRecDepth 100000 in
theorem spec_l1PickInt.calls (g : Nat) (s0_0 : List Int) (s0_1 : Int) (s0_2 : Int) (A1 : Option Addr) (c1 : Nat) (l1 : List Int) (r1 : Int) (r2 : Int) (r3 : Int) (w0 w : World) (hI : IsS77 w0 w g s0_0 s0_1 s0_2) (hB : Below w0.heap.size w0 w) (hr1 : Kd.C (Kd.int .i64) w A1 l1.length l1) (hc1 : l1.length ≤ c1) (hf1 : ∀ ad, A1 = some ad → 0 < l1.length → ad.block ≠ g) (h : spec_l1PickInt.f s0_0 s0_1 s0_2 l1 = some (r1, r2, r3)) :
  Calls Try.prog 57 #[.pointer (some ⟨g, 0, none⟩), .slice A1 l1.length c1] w fun e w' => e = .returned (.int .i64 r1) ∧ IsS77 w0 w' g s0_0 r2 r3 ∧ Below w0.heap.size w0 w' ∧ KeepBut w w' g none := by
 have HR1 := zA hr1
 have HC1 := zA hc1
 clear hr1 hc1
 have HI0 := zA hI
 have HK := zA (KeepBut.refl w g none)
 have HL := zA hB.size
 clear hI
 have HW0 := zA hB.size
 have HB := zA hB
 clear hB
 have H := h
 unfold spec_l1PickInt.f at H
 clear h
 replace H := Option.bind_eq_some_iff.mp H
 obtain ⟨⟨t117, t118, t119⟩, A30, H⟩ := H
 replace H : (if 0 ≤ t117 then (if t117 < (l1.length : Int) then (some (rd l1 t117, t118, t119)) else (none)) else (none)) = some (r1, r2, r3) := H
 have A3 := zA A30
 clear A30
 by_cases c4 : 0 ≤ t117
 ·rw [if_pos c4] at H
  have c4b0 : decide (0 ≤ t117) = true := decide_eq_true c4
  clear c4
  by_cases c5 : t117 < (l1.length : Int)
  ·rw [if_pos c5] at H
   have c5b0 : decide (t117 < (l1.length : Int)) = true := decide_eq_true c5
   clear c5
   simp only [Option.some.injEq, Prod.mk.injEq] at H
   obtain ⟨rfl, rfl, rfl⟩ := H
   go_enter Try.func57, Try.ntmps57
   go_wp2_with (first | ((with_reducible refine gate_callee (f := 52) rfl ?_); refine goesL_ (some 9) rfl rfl Try.func52 (by kernel_rfl) rfl #[.pointer (some ⟨g, 0, none⟩), .int .i64 (l1.length : Int)] rfl zM ?_; (with_reducible refine (spec_l1Below.calls g s0_0 s0_1 s0_2 (l1.length : Int) t117 t118 t119 w0 _ ?side1 ?side2 A3.out).mono ?_); (case side1 => exact zI HI0); (case side2 => exact zB1 HB (zA (IsS77.ge HI0.out))); rintro e w6 ⟨rfl, hi, hb, hk⟩; refine ⟨_, rfl, ?_⟩; replace HK := zA (KeepBut.trans (zK HK) hk (.inl rfl)); replace HB := zA (hb); replace HI0 := zA (hi); (try clear hb); (try clear hb2); (try clear hk); (try clear hi); have p120 : 0 ≤ (t117 : Int) := of_decide_eq_true (by first | (with_reducible assumption) | assumption); have q120 : t117 < (l1.length : Int) := of_decide_eq_true (by first | (with_reducible assumption) | assumption); obtain ⟨ad120, e120, hx120_0⟩ := Kd.at_int HR1.out t117 p120 q120; cases e120; replace hx120_0 := keep_cell HK.out hx120_0 (by first | (rw [add_block]; exact hf1 _ rfl (by omega)) | exact hf1 _ rfl (by omega) | exact hf1 ad120 rfl (by omega)); replace p120 := eq_true p120; replace q120 := eq_true q120))
   go_ret
   exact ⟨zE, zI HI0, zB1 HB (zA (IsS77.ge HI0.out)), zK HK⟩
  ·rw [if_neg c5] at H
   exact absurd H (by simp)
 ·rw [if_neg c4] at H
  exact absurd H (by simp)

/-! ### spec_l1Once: function 72 -/
def spec_l1Once.f (s0_0 : List Int) (s0_1 : Int) (s0_2 : Int) (a1 : Int) : Option (Bool × Int × Int) := (spec_l1Below.f s0_0 s0_1 s0_2 a1).bind fun bt374 => (some ((bt374.1 == 0), bt374.2.1, bt374.2.2))
set_option maxHeartbeats 8000000 in
set_option maxRecDepth 100000 in
theorem spec_l1Once.calls (g : Nat) (s0_0 : List Int) (s0_1 : Int) (s0_2 : Int) (a1 : Int) (r1 : Bool) (r2 : Int) (r3 : Int) (w0 w : World) (hI : IsS77 w0 w g s0_0 s0_1 s0_2) (hB : Below w0.heap.size w0 w) (h : spec_l1Once.f s0_0 s0_1 s0_2 a1 = some (r1, r2, r3)) :
  Calls Try.prog 72 #[.pointer (some ⟨g, 0, none⟩), .int .i64 a1] w fun e w' => e = .returned (.bool r1) ∧ IsS77 w0 w' g s0_0 r2 r3 ∧ Below w0.heap.size w0 w' ∧ KeepBut w w' g none := by
 have HI0 := zA hI
 have HK := zA (KeepBut.refl w g none)
 have HL := zA hB.size
 clear hI
 have HW0 := zA hB.size
 have HB := zA hB
 clear hB
 have H := h
 unfold spec_l1Once.f at H
 clear h
 replace H := Option.bind_eq_some_iff.mp H
 obtain ⟨⟨t374, t375, t376⟩, A30, H⟩ := H
 replace H : (some ((t374 == 0), t375, t376)) = some (r1, r2, r3) := H
 have A3 := zA A30
 clear A30
 simp only [Option.some.injEq, Prod.mk.injEq] at H
 obtain ⟨rfl, rfl, rfl⟩ := H
 go_enter Try.func72, Try.ntmps72
 go_wp2_with (first | ((with_reducible refine gate_callee (f := 52) rfl ?_); refine goesL_ (some 7) rfl rfl Try.func52 (by kernel_rfl) rfl #[.pointer (some ⟨g, 0, none⟩), .int .i64 a1] rfl zM ?_; (with_reducible refine (spec_l1Below.calls g s0_0 s0_1 s0_2 a1 t374 t375 t376 w0 _ ?side1 ?side2 A3.out).mono ?_); (case side1 => exact zI HI0); (case side2 => exact zB1 HB (zA (IsS77.ge HI0.out))); rintro e w4 ⟨rfl, hi, hb, hk⟩; refine ⟨_, rfl, ?_⟩; replace HK := zA (KeepBut.trans (zK HK) hk (.inl rfl)); replace HB := zA (hb); replace HI0 := zA (hi); (try clear hb); (try clear hb2); (try clear hk); (try clear hi)))
 go_ret
 exact ⟨zE, zI HI0, zB1 HB (zA (IsS77.ge HI0.out)), zK HK⟩

/-! ### spec_l6Draw: function 56 -/
def spec_l6Draw.f (s0_0 : List Int) (s0_1 : Int) (s0_2 : Int) (a1 : Int) : Option (Int × Int × Int × Int) := if 0 ≤ a1 then ((spec_l1Below.f s0_0 s0_1 s0_2 (shl .i64 1 a1)).bind fun bt378 => ((spec_l1Below.f s0_0 bt378.2.1 bt378.2.2 (shl .i64 1 a1)).bind fun bt381 => ((spec_l1Once.f s0_0 bt381.2.1 bt381.2.2 12).bind fun bt385 => (if bt385.1 = true then ((spec_l1PickInt.f s0_0 bt385.2.1 bt385.2.2 (([(-1), 1, 32, 9223372036854775807] : List Int))).bind fun bt391 => (some (bt378.1, bt391.1, bt391.2.1, bt391.2.2))) else (some (bt378.1, Go.bits .and .i64 bt378.1 bt381.1, bt385.2.1, bt385.2.2)))))) else (none)
set_option maxHeartbeats 8000000 in
set_option maxRecDepth 100000 in
theorem spec_l6Draw.calls (g : Nat) (s0_0 : List Int) (s0_1 : Int) (s0_2 : Int) (a1 : Int) (r1 : Int) (r2 : Int) (r3 : Int) (r4 : Int) (w0 w : World) (hI : IsS77 w0 w g s0_0 s0_1 s0_2) (hB : Below w0.heap.size w0 w) (h : spec_l6Draw.f s0_0 s0_1 s0_2 a1 = some (r1, r2, r3, r4)) :
  Calls Try.prog 56 #[.pointer (some ⟨g, 0, none⟩), .int .i64 a1] w fun e w' => e = .returned (.agg #[.int .i64 r1, .int .i64 r2]) ∧ IsS77 w0 w' g s0_0 r3 r4 ∧ Below w0.heap.size w0 w' ∧ KeepBut w w' g none := by
 have hu33 := Try.underlying33
 have HI0 := zA hI
 have HK := zA (KeepBut.refl w g none)
 have HL := zA hB.size
 clear hI
 have HW0 := zA hB.size
 have HB := zA hB
 clear hB
 have H := h
 unfold spec_l6Draw.f at H
 clear h
 by_cases c3 : 0 ≤ a1
 ·rw [if_pos c3] at H
  have c3b0 := eq_true c3
  have c3b1 : decide (0 ≤ a1) = true := decide_eq_true c3
  clear c3
  obtain ⟨ji4, hji4⟩ : ∃ j_ : Int, (shl .i64 1 a1) = j_ := ⟨_, rfl⟩
  replace H : ((spec_l1Below.f s0_0 s0_1 s0_2 (ji4)).bind fun bt378 => ((spec_l1Below.f s0_0 bt378.2.1 bt378.2.2 (ji4)).bind fun bt381 => ((spec_l1Once.f s0_0 bt381.2.1 bt381.2.2 12).bind fun bt385 => (if bt385.1 = true then ((spec_l1PickInt.f s0_0 bt385.2.1 bt385.2.2 (([(-1), 1, 32, 9223372036854775807] : List Int))).bind fun bt391 => (some (bt378.1, bt391.1, bt391.2.1, bt391.2.2))) else (some (bt378.1, Go.bits .and .i64 bt378.1 bt381.1, bt385.2.1, bt385.2.2)))))) = some (r1, r2, r3, r4) := by first | (rw [hji4] at H; exact H) | (simp only [hji4] at H ⊢; exact H)
  have hji4_ : (IntKind.i64.wrap (1 * 2 ^ min a1.toNat 64)) = ji4 := hji4
  have hji4z : a1 ≤ 64 → (IntKind.i64.wrap (1 * 2 ^ a1.toNat)) = ji4 := shl_small hji4
  have hji4u : (IntKind.i64.wrap (2 ^ min a1.toNat 64)) = ji4 := by have h_ := hji4_; rw [Int.one_mul] at h_; exact h_
  have hji4v : a1 ≤ 64 → (IntKind.i64.wrap (2 ^ a1.toNat)) = ji4 := fun hle_ => by have h_ := hji4z hle_; rw [Int.one_mul] at h_; exact h_
  have hji4y : (wrap64 (1 * 2 ^ min a1.toNat 64)) = ji4 := (i64_w _).symm.trans hji4_
  have hji4x : a1 ≤ 64 → (wrap64 (1 * 2 ^ a1.toNat)) = ji4 := fun h_ => (i64_w _).symm.trans (hji4z h_)
  replace H := Option.bind_eq_some_iff.mp H
  obtain ⟨⟨t378, t379, t380⟩, A50, H⟩ := H
  replace H : ((spec_l1Below.f s0_0 t379 t380 (ji4)).bind fun bt381 => ((spec_l1Once.f s0_0 bt381.2.1 bt381.2.2 12).bind fun bt385 => (if bt385.1 = true then ((spec_l1PickInt.f s0_0 bt385.2.1 bt385.2.2 (([(-1), 1, 32, 9223372036854775807] : List Int))).bind fun bt391 => (some (t378, bt391.1, bt391.2.1, bt391.2.2))) else (some (t378, Go.bits .and .i64 t378 bt381.1, bt385.2.1, bt385.2.2))))) = some (r1, r2, r3, r4) := H
  have A5 := zA A50
  clear A50
  have c6b0 := eq_true (of_decide_eq_true (by first | (with_reducible assumption) | assumption) : 0 ≤ a1)
  replace H := Option.bind_eq_some_iff.mp H
  obtain ⟨⟨t381, t382, t383⟩, A70, H⟩ := H
  have A7 := zA A70
  clear A70
  replace H := Option.bind_eq_some_iff.mp H
  obtain ⟨⟨t385, t386, t387⟩, A80, H⟩ := H
  replace H : (if t385 = true then ((spec_l1PickInt.f s0_0 t386 t387 (([(-1), 1, 32, 9223372036854775807] : List Int))).bind fun bt391 => (some (t378, bt391.1, bt391.2.1, bt391.2.2))) else (some (t378, Go.bits .and .i64 t378 t381, t386, t387))) = some (r1, r2, r3, r4) := H
  have A8 := zA A80
  clear A80
  by_cases c9 : t385 = true
  ·subst c9
   have H1 : ((spec_l1PickInt.f s0_0 t386 t387 (([(-1), 1, 32, 9223372036854775807] : List Int))).bind fun bt391 => (some (t378, bt391.1, bt391.2.1, bt391.2.2))) = some (r1, r2, r3, r4) := by rw [if_pos rfl] at H; exact H
   clear H
   have H := H1
   clear H1
   obtain ⟨y388, hy388⟩ : ∃ y_ : List Int, y_ = (([(-1), 1, 32, 9223372036854775807] : List Int)) := ⟨_, rfl⟩
   replace H : ((spec_l1PickInt.f s0_0 t386 t387 y388).bind fun bt391 => (some (t378, bt391.1, bt391.2.1, bt391.2.2))) = some (r1, r2, r3, r4) := by first | (rw [hy388]; with_reducible exact H) | (have H2_ := (Option.bind_some _ _).symm.trans H; rw [hy388]; with_reducible exact H2_) | (have H2_ := (Option.bind_some _ _).symm.trans H; with_reducible exact H2_) | with_reducible exact H | (rw [hy388]; exact H) | exact H
   have Ny388 := zA hy388
   clear hy388
   replace H := Option.bind_eq_some_iff.mp H
   obtain ⟨⟨t391, t392, t393⟩, A100, H⟩ := H
   replace H : (some (t378, t391, t392, t393)) = some (r1, r2, r3, r4) := H
   have A10 := zA A100
   clear A100
   simp only [Option.some.injEq, Prod.mk.injEq] at H
   obtain ⟨rfl, rfl, rfl, rfl⟩ := H
   go_enter Try.func56, Try.ntmps56
   go_wp2_with (first | ((with_reducible refine gate_dst (N := 4) rfl ?_); refine box_event ?hg (N := 4) ?hd (cs := #[.int .i64 0, .int .i64 0]) (t := 33) ?hr ?_; (case hd => rfl); (case hg => rfl); (case hr => exact zH); intro gb377 hg w11 hbox hb; have BK377 := zA (hbox); have GW377 := zA ((by rw [hg]; exact (keep_size (w := w) (g := g) (row := none) (zK HK)) : w.heap.size ≤ gb377)); have GE377 := zA ((Nat.le_trans HW0.out (by rw [hg]; exact (keep_size (w := w) (g := g) (row := none) (zK HK)) : w.heap.size ≤ gb377) : w0.heap.size ≤ gb377)); have NB0_377 := zA ((by rw [hg]; exact Nat.ne_of_lt (IsS77.lt (show IsS77 w0 _ g s0_0 s0_1 s0_2 from zI HI0)) : g ≠ gb377)); have NB377_0 := zA ((by rw [hg]; exact Nat.ne_of_gt (IsS77.lt (show IsS77 w0 _ g s0_0 s0_1 s0_2 from zI HI0)) : gb377 ≠ g)); replace HK := zA (KeepBut.trans (zK HK) (KeepBut.of_below hb g none) (.inl rfl)); replace HB := zA (below_step (zB1 HB (zA (IsS77.ge HI0.out))) hb); replace HI0 := zA (IsS77.below (zI HI0) hb); clear hb hbox hg) | ((with_reducible refine gate_callee (f := 52) rfl ?_); refine goesL_ (some 10) rfl rfl Try.func52 (by kernel_rfl) rfl #[.pointer (some ⟨g, 0, none⟩), .int .i64 ji4] rfl (by (try simp only [List.map_toArray, List.map_cons, List.map_nil]); first | done | (simp only [hji4]; rfl) | rfl | (simp only [List.length_drop, List.length_take]; rfl)) ?_; (with_reducible refine (spec_l1Below.calls g s0_0 s0_1 s0_2 ji4 t378 t379 t380 w0 _ ?side1 ?side2 A5.out).mono ?_); (case side1 => exact zI1 HI0 NB0_377); (case side2 => exact zB2 HB (zA (IsS77.ge HI0.out)) GE377); rintro e w12 ⟨rfl, hi, hb, hk⟩; refine ⟨_, rfl, ?_⟩; replace BK377 := zA (KeepBut.blk hk (g' := gb377) (o := .cells #[.int .i64 0, .int .i64 0] 33 (0, 0)) (zD BK377) NB377_0.out (by simp)); replace HK := zA (KeepBut.trans (zK1 HK GW377) hk (.inl rfl)); replace HB := zA (hb); replace HI0 := zA (hi); (try clear hb); (try clear hb2); (try clear hk); (try clear hi)) | ((with_reducible refine gate_callee (f := 52) rfl ?_); refine goesL_ (some 16) rfl rfl Try.func52 (by kernel_rfl) rfl #[.pointer (some ⟨g, 0, none⟩), .int .i64 ji4] rfl (by (try simp only [List.map_toArray, List.map_cons, List.map_nil]); first | done | (simp only [hji4]; rfl) | rfl | (simp only [List.length_drop, List.length_take]; rfl)) ?_; (with_reducible refine (spec_l1Below.calls g s0_0 t379 t380 ji4 t381 t382 t383 w0 _ ?side1 ?side2 A7.out).mono ?_); (case side1 => exact zI1 HI0 NB0_377); (case side2 => exact zB2 HB (zA (IsS77.ge HI0.out)) GE377); rintro e w13 ⟨rfl, hi, hb, hk⟩; refine ⟨_, rfl, ?_⟩; replace BK377 := zA (KeepBut.blk hk (g' := gb377) (o := .cells #[.int .i64 0, .int .i64 0] 33 (0, 0)) (zD BK377) NB377_0.out (by simp)); replace HK := zA (KeepBut.trans (zK1 HK GW377) hk (.inl rfl)); replace HB := zA (hb); replace HI0 := zA (hi); (try clear hb); (try clear hb2); (try clear hk); (try clear hi)) | ((with_reducible refine gate_dst (N := 6) rfl ?_); refine box_event ?hg (N := 6) ?hd (cs := #[.int .i64 0, .int .i64 0]) (t := 33) ?hr ?_; (case hd => rfl); (case hg => rfl); (case hr => exact zH); intro gb384 hg w14 hbox hb; have BK384 := zA (hbox); have GW384 := zA ((by rw [hg]; exact (keep_size (w := w) (g := g) (row := none) (zK1 HK GW377)) : w.heap.size ≤ gb384)); have GE384 := zA ((Nat.le_trans HW0.out (by rw [hg]; exact (keep_size (w := w) (g := g) (row := none) (zK1 HK GW377)) : w.heap.size ≤ gb384) : w0.heap.size ≤ gb384)); have NB377_384 := zn BK377 hg; have NB384_377 := zo BK377 hg; have NB0_384 := zA ((by rw [hg]; exact Nat.ne_of_lt (IsS77.lt (show IsS77 w0 _ g s0_0 t382 t383 from zI1 HI0 NB0_377)) : g ≠ gb384)); have NB384_0 := zA ((by rw [hg]; exact Nat.ne_of_gt (IsS77.lt (show IsS77 w0 _ g s0_0 t382 t383 from zI1 HI0 NB0_377)) : gb384 ≠ g)); replace BK377 := zb BK377 hb; replace HK := zA (KeepBut.trans (zK1 HK GW377) (KeepBut.of_below hb g none) (.inl rfl)); replace HB := zA (below_step (zB2 HB (zA (IsS77.ge HI0.out)) GE377) hb); replace HI0 := zA (IsS77.below (zI1 HI0 NB0_377) hb); clear hb hbox hg; have hnb15 := NB384_377.out; have hnc15 := NB377_384.out; have hnb16 := NB384_0.out; have hnc16 := NB0_384.out; have hcz17_0 := zc0 BK384; have hcz17_1 := zc1 BK384; have hfz17_0 := blk_frozen BK384.out 0; have hfz17_1 := blk_frozen BK384.out 1) | ((with_reducible refine gate_callee (f := 72) rfl ?_); refine goesL_ (some 20) rfl rfl Try.func72 (by kernel_rfl) rfl #[.pointer (some ⟨g, 0, none⟩), .int .i64 12] rfl zM ?_; (with_reducible refine (spec_l1Once.calls g s0_0 t382 t383 12 true t386 t387 w0 _ ?side1 ?side2 A8.out).mono ?_); (case side1 => exact zI2 HI0 NB0_377 NB0_384); (case side2 => exact zB3 HB (zA (IsS77.ge HI0.out)) GE377 GE384); rintro e w18 ⟨rfl, hi, hb, hk⟩; refine ⟨_, rfl, ?_⟩; replace BK377 := zA (KeepBut.blk hk (g' := gb377) (o := .cells #[.int .i64 0, .int .i64 0] 33 (0, 0)) (zF BK377 NB377_384) NB377_0.out (by simp)); replace BK384 := zA (KeepBut.blk hk (g' := gb384) (o := .cells #[.int .i64 t378, .int .i64 (Go.bits .and .i64 t378 t381)] 33 (0, 0)) (zP BK384) NB384_0.out (by simp)); replace HK := zA (KeepBut.trans (zK2 HK GW377 GW384) hk (.inl rfl)); replace HB := zA (hb); replace HI0 := zA (hi); (try clear hb); (try clear hb2); (try clear hk); (try clear hi)) | ((with_reducible refine gate_dst (N := 22) rfl ?_); refine Kd.R_lit (Kd.int .i64) _ 3 ?hg (N := 22) ?hd (xs := ([(-1), 1, 32, 9223372036854775807] : List Int)) (inner := [.int .i64 (-1), .int .i64 1, .int .i64 32, .int .i64 9223372036854775807]) (ok := fun _ => True) (okp := fun _ => True) ?hr ?hp (fun _ hk => hk) trivial (Below.refl _ _) (Nat.le_refl _) (by simp) ?_; (case hd => rfl); (case hg => rfl); (case hr => exact zH); (case hp => exact (Reps.one (show Kd.M (Kd.int .i64) _ _ _ (-1) [.int .i64 (-1)] from rfl) (Reps.one (show Kd.M (Kd.int .i64) _ _ _ 1 [.int .i64 1] from rfl) (Reps.one (show Kd.M (Kd.int .i64) _ _ _ 32 [.int .i64 32] from rfl) (Reps.one (show Kd.M (Kd.int .i64) _ _ _ 9223372036854775807 [.int .i64 9223372036854775807] from rfl) (Reps.none _ _)))))); intro v389 w19 ho20 hb hg_ hnew_; clear hg_ hnew_; (first | rw [← Ny388.out] at ho20 | (simp only [Int.reduceToNat] at ho20; rw [← Ny388.out] at ho20)); have HO390 := zA (Kd.R_lower ho20 (keep_size (w := w) (g := g) (row := none) (zK2 HK GW377 GW384))); replace BK377 := zb BK377 hb; replace BK384 := zb BK384 hb; replace HK := zA (KeepBut.trans (zK2 HK GW377 GW384) (KeepBut.of_below hb g none) (.inl rfl)); replace HB := zA (below_step (zB3 HB (zA (IsS77.ge HI0.out)) GE377 GE384) hb); replace HI0 := zA (IsS77.below (zI2 HI0 NB0_377 NB0_384) hb); clear hb ho20; obtain ⟨Ao21, co21, eo21⟩ := Kd.R_slice HO390.out; subst eo21) | ((with_reducible refine gate_callee (f := 57) rfl ?_); refine goesL_ (some 23) rfl rfl Try.func57 (by kernel_rfl) rfl #[.pointer (some ⟨g, 0, none⟩), .slice Ao21 y388.length co21] rfl zM ?_; (with_reducible refine (spec_l1PickInt.calls g s0_0 t386 t387 _ _ y388 t391 t392 t393 w0 _ ?side1 ?side2 ?side3 ?side4 ?side5 A10.out).mono ?_); (case side1 => exact zI2 HI0 NB0_377 NB0_384); (case side2 => exact zB3 HB (zA (IsS77.ge HI0.out)) GE377 GE384); (case side3 => exact zC (Kd.R_reads' HO390.out).2.2); (case side4 => exact (Kd.R_reads' HO390.out).2.1); (case side5 => exact far_slice (IsS77.own_ne HI0.out HO390.out (by decide))); rintro e w22 ⟨rfl, hi, hb, hk⟩; refine ⟨_, rfl, ?_⟩; replace BK377 := zA (KeepBut.blk hk (g' := gb377) (o := .cells #[.int .i64 0, .int .i64 0] 33 (0, 0)) (zD BK377) NB377_0.out (by simp)); replace BK384 := zA (KeepBut.blk hk (g' := gb384) (o := .cells #[.int .i64 t378, .int .i64 (Go.bits .and .i64 t378 t381)] 33 (0, 0)) (zD BK384) NB384_0.out (by simp)); replace HO390 := zA (Kd.R_mono (Kd.R_keep (IsS77.apart (show IsS77 w0 _ g s0_0 t386 t387 from zI2 HI0 NB0_377 NB0_384) (zR HO390) (by decide)) hk (fun _ h => h.2)) (fun _ h => h.1)); replace HK := zA (KeepBut.trans (zK2 HK GW377 GW384) hk (.inl rfl)); replace HB := zA (hb); replace HI0 := zA (hi); (try clear hb); (try clear hb2); (try clear hk); (try clear hi); have hcz23_0 := zc0 BK384; have hcz23_1 := zc1 BK384; have hfz23_0 := blk_frozen BK384.out 0; have hfz23_1 := blk_frozen BK384.out 1; have hnb24 := NB377_0.out; have hnc24 := NB0_377.out; have hcz25_0 := zc0 BK377; have hcz25_1 := zc1 BK377; have hfz25_0 := blk_frozen BK377.out 0; have hfz25_1 := blk_frozen BK377.out 1))
   refine bodyPost_ret (results_cell_row rfl _ _ gb377 33 #[.int .i64 t378, .int .i64 t391] (0, 0) _ rfl (by (with_reducible repeat (first | refine blk_drewN ?_ _ | refine blk_drew ?_ | refine blk_alloc ?_ _)); refine blk_put (cs := #[.int .i64 t378, .int .i64 0]) ?_ 1 _ rfl; (with_reducible repeat (first | refine blk_drewN ?_ _ | refine blk_drew ?_ | refine blk_alloc ?_ _)); refine blk_put (cs := #[.int .i64 0, .int .i64 0]) ?_ 0 _ rfl; (with_reducible repeat (first | refine blk_drewN ?_ _ | refine blk_drew ?_ | refine blk_alloc ?_ _)); refine blk_far ?_ NB377_384.out _; (with_reducible repeat (first | refine blk_drewN ?_ _ | refine blk_drew ?_ | refine blk_alloc ?_ _)); exact BK377.out) Try.underlying33 rfl (by kernel_rfl)) rfl ?_
   exact ⟨by first | rfl | (simp [errW_none, errW_some] <;> rfl) | (simp only [← hji4]; first | rfl | (simp [errW_none, errW_some] <;> rfl)) | (simp [*, errW_none, errW_some] <;> rfl), zI2 HI0 NB0_377 NB0_384, zB3 HB (zA (IsS77.ge HI0.out)) GE377 GE384, zK2 HK GW377 GW384⟩
  ·replace c9 := Bool.eq_false_iff.mpr c9
   subst c9
   have H1 : (some (t378, Go.bits .and .i64 t378 t381, t386, t387)) = some (r1, r2, r3, r4) := by rw [if_neg (show ¬ (false = true) by decide)] at H; exact H
   clear H
   have H := H1
   clear H1
   simp only [Option.some.injEq, Prod.mk.injEq] at H
   obtain ⟨rfl, rfl, rfl, rfl⟩ := H
   go_enter Try.func56, Try.ntmps56
   go_wp2_with (first | ((with_reducible refine gate_dst (N := 4) rfl ?_); refine box_event ?hg (N := 4) ?hd (cs := #[.int .i64 0, .int .i64 0]) (t := 33) ?hr ?_; (case hd => rfl); (case hg => rfl); (case hr => exact zH); intro gb377 hg w26 hbox hb; have BK377 := zA (hbox); have GW377 := zA ((by rw [hg]; exact (keep_size (w := w) (g := g) (row := none) (zK HK)) : w.heap.size ≤ gb377)); have GE377 := zA ((Nat.le_trans HW0.out (by rw [hg]; exact (keep_size (w := w) (g := g) (row := none) (zK HK)) : w.heap.size ≤ gb377) : w0.heap.size ≤ gb377)); have NB0_377 := zA ((by rw [hg]; exact Nat.ne_of_lt (IsS77.lt (show IsS77 w0 _ g s0_0 s0_1 s0_2 from zI HI0)) : g ≠ gb377)); have NB377_0 := zA ((by rw [hg]; exact Nat.ne_of_gt (IsS77.lt (show IsS77 w0 _ g s0_0 s0_1 s0_2 from zI HI0)) : gb377 ≠ g)); replace HK := zA (KeepBut.trans (zK HK) (KeepBut.of_below hb g none) (.inl rfl)); replace HB := zA (below_step (zB1 HB (zA (IsS77.ge HI0.out))) hb); replace HI0 := zA (IsS77.below (zI HI0) hb); clear hb hbox hg) | ((with_reducible refine gate_callee (f := 52) rfl ?_); refine goesL_ (some 10) rfl rfl Try.func52 (by kernel_rfl) rfl #[.pointer (some ⟨g, 0, none⟩), .int .i64 ji4] rfl (by (try simp only [List.map_toArray, List.map_cons, List.map_nil]); first | done | (simp only [hji4]; rfl) | rfl | (simp only [List.length_drop, List.length_take]; rfl)) ?_; (with_reducible refine (spec_l1Below.calls g s0_0 s0_1 s0_2 ji4 t378 t379 t380 w0 _ ?side1 ?side2 A5.out).mono ?_); (case side1 => exact zI1 HI0 NB0_377); (case side2 => exact zB2 HB (zA (IsS77.ge HI0.out)) GE377); rintro e w27 ⟨rfl, hi, hb, hk⟩; refine ⟨_, rfl, ?_⟩; replace BK377 := zA (KeepBut.blk hk (g' := gb377) (o := .cells #[.int .i64 0, .int .i64 0] 33 (0, 0)) (zD BK377) NB377_0.out (by simp)); replace HK := zA (KeepBut.trans (zK1 HK GW377) hk (.inl rfl)); replace HB := zA (hb); replace HI0 := zA (hi); (try clear hb); (try clear hb2); (try clear hk); (try clear hi)) | ((with_reducible refine gate_callee (f := 52) rfl ?_); refine goesL_ (some 16) rfl rfl Try.func52 (by kernel_rfl) rfl #[.pointer (some ⟨g, 0, none⟩), .int .i64 ji4] rfl (by (try simp only [List.map_toArray, List.map_cons, List.map_nil]); first | done | (simp only [hji4]; rfl) | rfl | (simp only [List.length_drop, List.length_take]; rfl)) ?_; (with_reducible refine (spec_l1Below.calls g s0_0 t379 t380 ji4 t381 t382 t383 w0 _ ?side1 ?side2 A7.out).mono ?_); (case side1 => exact zI1 HI0 NB0_377); (case side2 => exact zB2 HB (zA (IsS77.ge HI0.out)) GE377); rintro e w28 ⟨rfl, hi, hb, hk⟩; refine ⟨_, rfl, ?_⟩; replace BK377 := zA (KeepBut.blk hk (g' := gb377) (o := .cells #[.int .i64 0, .int .i64 0] 33 (0, 0)) (zD BK377) NB377_0.out (by simp)); replace HK := zA (KeepBut.trans (zK1 HK GW377) hk (.inl rfl)); replace HB := zA (hb); replace HI0 := zA (hi); (try clear hb); (try clear hb2); (try clear hk); (try clear hi)) | ((with_reducible refine gate_dst (N := 6) rfl ?_); refine box_event ?hg (N := 6) ?hd (cs := #[.int .i64 0, .int .i64 0]) (t := 33) ?hr ?_; (case hd => rfl); (case hg => rfl); (case hr => exact zH); intro gb384 hg w29 hbox hb; have BK384 := zA (hbox); have GW384 := zA ((by rw [hg]; exact (keep_size (w := w) (g := g) (row := none) (zK1 HK GW377)) : w.heap.size ≤ gb384)); have GE384 := zA ((Nat.le_trans HW0.out (by rw [hg]; exact (keep_size (w := w) (g := g) (row := none) (zK1 HK GW377)) : w.heap.size ≤ gb384) : w0.heap.size ≤ gb384)); have NB377_384 := zn BK377 hg; have NB384_377 := zo BK377 hg; have NB0_384 := zA ((by rw [hg]; exact Nat.ne_of_lt (IsS77.lt (show IsS77 w0 _ g s0_0 t382 t383 from zI1 HI0 NB0_377)) : g ≠ gb384)); have NB384_0 := zA ((by rw [hg]; exact Nat.ne_of_gt (IsS77.lt (show IsS77 w0 _ g s0_0 t382 t383 from zI1 HI0 NB0_377)) : gb384 ≠ g)); replace BK377 := zb BK377 hb; replace HK := zA (KeepBut.trans (zK1 HK GW377) (KeepBut.of_below hb g none) (.inl rfl)); replace HB := zA (below_step (zB2 HB (zA (IsS77.ge HI0.out)) GE377) hb); replace HI0 := zA (IsS77.below (zI1 HI0 NB0_377) hb); clear hb hbox hg; have hnb30 := NB384_377.out; have hnc30 := NB377_384.out; have hnb31 := NB384_0.out; have hnc31 := NB0_384.out; have hcz32_0 := zc0 BK384; have hcz32_1 := zc1 BK384; have hfz32_0 := blk_frozen BK384.out 0; have hfz32_1 := blk_frozen BK384.out 1) | ((with_reducible refine gate_callee (f := 72) rfl ?_); refine goesL_ (some 20) rfl rfl Try.func72 (by kernel_rfl) rfl #[.pointer (some ⟨g, 0, none⟩), .int .i64 12] rfl zM ?_; (with_reducible refine (spec_l1Once.calls g s0_0 t382 t383 12 false t386 t387 w0 _ ?side1 ?side2 A8.out).mono ?_); (case side1 => exact zI2 HI0 NB0_377 NB0_384); (case side2 => exact zB3 HB (zA (IsS77.ge HI0.out)) GE377 GE384); rintro e w33 ⟨rfl, hi, hb, hk⟩; refine ⟨_, rfl, ?_⟩; replace BK377 := zA (KeepBut.blk hk (g' := gb377) (o := .cells #[.int .i64 0, .int .i64 0] 33 (0, 0)) (zF BK377 NB377_384) NB377_0.out (by simp)); replace BK384 := zA (KeepBut.blk hk (g' := gb384) (o := .cells #[.int .i64 t378, .int .i64 (Go.bits .and .i64 t378 t381)] 33 (0, 0)) (zP BK384) NB384_0.out (by simp)); replace HK := zA (KeepBut.trans (zK2 HK GW377 GW384) hk (.inl rfl)); replace HB := zA (hb); replace HI0 := zA (hi); (try clear hb); (try clear hb2); (try clear hk); (try clear hi); have hcz34_0 := zc0 BK384; have hcz34_1 := zc1 BK384; have hfz34_0 := blk_frozen BK384.out 0; have hfz34_1 := blk_frozen BK384.out 1; have hnb35 := NB377_0.out; have hnc35 := NB0_377.out; have hcz36_0 := zc0 BK377; have hcz36_1 := zc1 BK377; have hfz36_0 := blk_frozen BK377.out 0; have hfz36_1 := blk_frozen BK377.out 1))
   refine bodyPost_ret (results_cell_row rfl _ _ gb377 33 #[.int .i64 t378, .int .i64 (Go.bits .and .i64 t378 t381)] (0, 0) _ rfl (zP BK377) Try.underlying33 rfl (by kernel_rfl)) rfl ?_
   exact ⟨by first | rfl | (simp [errW_none, errW_some] <;> rfl) | (simp only [← hji4]; first | rfl | (simp [errW_none, errW_some] <;> rfl)) | (simp [*, errW_none, errW_some] <;> rfl), zI2 HI0 NB0_377 NB0_384, zB3 HB (zA (IsS77.ge HI0.out)) GE377 GE384, zK2 HK GW377 GW384⟩
 ·rw [if_neg c3] at H
  exact absurd H (by simp)

/-! ### spec_l6Named: function 47 -/
def spec_l6Named.f (k : Nat) (l0 : List Int) : Option (Int × Int × Int) := (spec_l1New.f k l0).bind fun bt395 => ((spec_l1PickInt.f bt395.1 bt395.2.1 bt395.2.2 (([4, 4, 3, 5, 0, (-1), 6] : List Int))).bind fun bt402 => ((spec_l6Draw.f bt395.1 bt402.2.1 bt402.2.2 4).bind fun bt405 => (some (bt402.1, bt405.1, bt405.2.1))))
theorem spec_l6Named.mono : ∀ a0 k, LeO (spec_l6Named.f k a0) (spec_l6Named.f (k + 1) a0) := by
 intro a0 k
 unfold spec_l6Named.f
 repeat' first
   | (with_reducible exact spec_l1New.mono _ _)
   | (with_reducible exact LeO.refl _)
   | (with_reducible exact LeO.none _)
   | (with_reducible refine LeO.ite ?_ ?_)
   | (with_reducible refine LeO.bind ?_ (fun _ => ?_))
   | exact spec_l1New.mono _ _
   | exact LeO.none _
   | refine LeO.ite ?_ ?_
   | refine LeO.bind ?_ (fun _ => ?_)
set_option maxHeartbeats 8000000 in
set_option maxRecDepth 100000 in
theorem spec_l6Named.calls (k : Nat) (A0 : Option Addr) (c0 : Nat) (l0 : List Int) (r1 : Int) (r2 : Int) (r3 : Int) (w : World) (hr0 : Kd.C (Kd.int .u8) w A0 l0.length l0) (hc0 : l0.length ≤ c0) (h : spec_l6Named.f k l0 = some (r1, r2, r3)) :
  Calls Try.prog 47 #[.slice A0 l0.length c0] w fun e w' => e = .returned (.tuple #[.int .i64 r1, .agg #[.int .i64 r2, .int .i64 r3]]) ∧ Below w.heap.size w w' := by
 have hu33 := Try.underlying33
 have HR0 := zA hr0
 have HC0 := zA hc0
 clear hr0 hc0
 have HB := zA (Below.refl w.heap.size w)
 have H := h
 unfold spec_l6Named.f at H
 clear h
 replace H := Option.bind_eq_some_iff.mp H
 obtain ⟨⟨t395, t396, t397⟩, A20, H⟩ := H
 replace H : ((spec_l1PickInt.f t395 t396 t397 (([4, 4, 3, 5, 0, (-1), 6] : List Int))).bind fun bt402 => ((spec_l6Draw.f t395 bt402.2.1 bt402.2.2 4).bind fun bt405 => (some (bt402.1, bt405.1, bt405.2.1)))) = some (r1, r2, r3) := H
 have A2 := zA A20
 clear A20
 obtain ⟨y399, hy399⟩ : ∃ y_ : List Int, y_ = (([4, 4, 3, 5, 0, (-1), 6] : List Int)) := ⟨_, rfl⟩
 replace H : ((spec_l1PickInt.f t395 t396 t397 y399).bind fun bt402 => ((spec_l6Draw.f t395 bt402.2.1 bt402.2.2 4).bind fun bt405 => (some (bt402.1, bt405.1, bt405.2.1)))) = some (r1, r2, r3) := by first | (rw [hy399]; with_reducible exact H) | (have H2_ := (Option.bind_some _ _).symm.trans H; rw [hy399]; with_reducible exact H2_) | (have H2_ := (Option.bind_some _ _).symm.trans H; with_reducible exact H2_) | with_reducible exact H | (rw [hy399]; exact H) | exact H
 have Ny399 := zA hy399
 clear hy399
 replace H := Option.bind_eq_some_iff.mp H
 obtain ⟨⟨t402, t403, t404⟩, A30, H⟩ := H
 have A3 := zA A30
 clear A30
 replace H := Option.bind_eq_some_iff.mp H
 obtain ⟨⟨t405, t406, t407, t408⟩, A40, H⟩ := H
 replace H : (some (t402, t405, t406)) = some (r1, r2, r3) := H
 have A4 := zA A40
 clear A40
 simp only [Option.some.injEq, Prod.mk.injEq] at H
 obtain ⟨rfl, rfl, rfl⟩ := H
 go_enter Try.func47, Try.ntmps47
 go_wp2_with (first | ((with_reducible refine gate_dst (N := 3) rfl ?_); refine box_event ?hg (N := 3) ?hd (cs := #[.int .i64 0, .int .i64 0]) (t := 33) ?hr ?_; (case hd => rfl); (case hg => rfl); (case hr => exact zH); intro gb394 hg w5 hbox hb; have BK394 := zA (hbox); have GW394 := zg HB hg; have GE394 := zg HB hg; replace HB := zA (below_step (zB HB) hb); clear hb hbox hg) | ((with_reducible refine gate_callee (f := 33) rfl ?_); refine goesL_ (some 7) rfl rfl Try.func33 (by kernel_rfl) rfl #[.slice A0 l0.length c0] rfl zM ?_; (with_reducible refine (spec_l1New.calls k _ _ l0 t395 t396 t397 w _ ?side1 ?side2 ?side3 A2.out).mono ?_); (case side1 => exact zB1 HB GE394); (case side2 => exact HR0.out); (case side3 => exact HC0.out); rintro e w6 ⟨g398, rfl, hi, hb, hb2⟩; refine ⟨_, rfl, ?_⟩; have HI398 := zA (hi); have NB398_394 := zA (IsS77.ne_blk hi (blk_below (g := gb394) (o := .cells #[.int .i64 0, .int .i64 0] 33 (0, 0)) (zD BK394) hb2) (by decide)); have NB394_398 := zA (Ne.symm (IsS77.ne_blk hi (blk_below (g := gb394) (o := .cells #[.int .i64 0, .int .i64 0] 33 (0, 0)) (zD BK394) hb2) (by decide))); replace BK394 := zb BK394 hb2; replace HB := zA (hb); (try clear hb); (try clear hb2); (try clear hk); (try clear hi)) | ((with_reducible refine gate_dst (N := 9) rfl ?_); refine Kd.R_lit (Kd.int .i64) _ 3 ?hg (N := 9) ?hd (xs := ([4, 4, 3, 5, 0, (-1), 6] : List Int)) (inner := [.int .i64 4, .int .i64 4, .int .i64 3, .int .i64 5, .int .i64 0, .int .i64 (-1), .int .i64 6]) (ok := fun _ => True) (okp := fun _ => True) ?hr ?hp (fun _ hk => hk) trivial (Below.refl _ _) (Nat.le_refl _) (by simp) ?_; (case hd => rfl); (case hg => rfl); (case hr => exact zH); (case hp => exact (Reps.one (show Kd.M (Kd.int .i64) _ _ _ 4 [.int .i64 4] from rfl) (Reps.one (show Kd.M (Kd.int .i64) _ _ _ 4 [.int .i64 4] from rfl) (Reps.one (show Kd.M (Kd.int .i64) _ _ _ 3 [.int .i64 3] from rfl) (Reps.one (show Kd.M (Kd.int .i64) _ _ _ 5 [.int .i64 5] from rfl) (Reps.one (show Kd.M (Kd.int .i64) _ _ _ 0 [.int .i64 0] from rfl) (Reps.one (show Kd.M (Kd.int .i64) _ _ _ (-1) [.int .i64 (-1)] from rfl) (Reps.one (show Kd.M (Kd.int .i64) _ _ _ 6 [.int .i64 6] from rfl) (Reps.none _ _))))))))); intro v400 w7 ho8 hb hg_ hnew_; clear hg_ hnew_; (first | rw [← Ny399.out] at ho8 | (simp only [Int.reduceToNat] at ho8; rw [← Ny399.out] at ho8)); have HO401 := zA (Kd.R_lower ho8 (below_size (zB2 HB (zA (IsS77.ge HI398.out)) GE394))); replace BK394 := zb BK394 hb; replace HB := zA (below_step (zB2 HB (zA (IsS77.ge HI398.out)) GE394) hb); replace HI398 := zA (IsS77.below (zI1 HI398 NB398_394) hb); clear hb ho8; obtain ⟨Ao9, co9, eo9⟩ := Kd.R_slice HO401.out; subst eo9) | ((with_reducible refine gate_callee (f := 57) rfl ?_); refine goesL_ (some 10) rfl rfl Try.func57 (by kernel_rfl) rfl #[.pointer (some ⟨g398, 0, none⟩), .slice Ao9 y399.length co9] rfl zM ?_; (with_reducible refine (spec_l1PickInt.calls g398 t395 t396 t397 _ _ y399 t402 t403 t404 w _ ?side1 ?side2 ?side3 ?side4 ?side5 A3.out).mono ?_); (case side1 => exact zI1 HI398 NB398_394); (case side2 => exact zB2 HB (zA (IsS77.ge HI398.out)) GE394); (case side3 => exact zC (Kd.R_reads' HO401.out).2.2); (case side4 => exact (Kd.R_reads' HO401.out).2.1); (case side5 => exact far_slice (IsS77.own_ne HI398.out HO401.out (by decide))); rintro e w10 ⟨rfl, hi, hb, hk⟩; refine ⟨_, rfl, ?_⟩; replace BK394 := zA (KeepBut.blk hk (g' := gb394) (o := .cells #[.int .i64 0, .int .i64 0] 33 (0, 0)) (zD BK394) NB394_398.out (by simp)); replace HO401 := zA (Kd.R_mono (Kd.R_keep (IsS77.apart (show IsS77 w _ g398 t395 t396 t397 from zI1 HI398 NB398_394) (zR HO401) (by decide)) hk (fun _ h => h.2)) (fun _ h => h.1)); replace HB := zA (hb); replace HI398 := zA (hi); (try clear hb); (try clear hb2); (try clear hk); (try clear hi)) | ((with_reducible refine gate_callee (f := 56) rfl ?_); refine goesL_ (some 13) rfl rfl Try.func56 (by kernel_rfl) rfl #[.pointer (some ⟨g398, 0, none⟩), .int .i64 4] rfl zM ?_; (with_reducible refine (spec_l6Draw.calls g398 t395 t403 t404 4 t405 t406 t407 t408 w _ ?side1 ?side2 A4.out).mono ?_); (case side1 => exact zI1 HI398 NB398_394); (case side2 => exact zB2 HB (zA (IsS77.ge HI398.out)) GE394); rintro e w11 ⟨rfl, hi, hb, hk⟩; refine ⟨_, rfl, ?_⟩; replace BK394 := zA (KeepBut.blk hk (g' := gb394) (o := .cells #[.int .i64 0, .int .i64 0] 33 (0, 0)) (zD BK394) NB394_398.out (by simp)); replace HO401 := zA (Kd.R_mono (Kd.R_keep (IsS77.apart (show IsS77 w _ g398 t395 t403 t404 from zI1 HI398 NB398_394) (zR HO401) (by decide)) hk (fun _ h => h.2)) (fun _ h => h.1)); replace HB := zA (hb); replace HI398 := zA (hi); (try clear hb); (try clear hb2); (try clear hk); (try clear hi); have hnb12 := NB394_398.out; have hnc12 := NB398_394.out; have hcz13_0 := zc0 BK394; have hcz13_1 := zc1 BK394; have hfz13_0 := blk_frozen BK394.out 0; have hfz13_1 := blk_frozen BK394.out 1))
 refine bodyPost_ret (results_tc rfl _ _ gb394 33 #[.int .i64 t405, .int .i64 t406] (0, 0) _ rfl (zP BK394) Try.underlying33 rfl (by kernel_rfl)) rfl ?_
 exact ⟨zE, zB2 HB (zA (IsS77.ge HI398.out)) GE394⟩

/-! ### spec_DrawFormatTerm: function 16 -/
def spec_DrawFormatTerm.f (k : Nat) (l0 : List Int) : Option (Int × Int × Int) := (spec_l6Named.f k l0).bind fun bt410 => (some (bt410.1, bt410.2.1, bt410.2.2))
theorem spec_DrawFormatTerm.mono : ∀ a0 k, LeO (spec_DrawFormatTerm.f k a0) (spec_DrawFormatTerm.f (k + 1) a0) := by
 intro a0 k
 unfold spec_DrawFormatTerm.f
 repeat' first
   | (with_reducible exact spec_l6Named.mono _ _)
   | (with_reducible exact LeO.refl _)
   | (with_reducible exact LeO.none _)
   | (with_reducible refine LeO.ite ?_ ?_)
   | (with_reducible refine LeO.bind ?_ (fun _ => ?_))
   | exact spec_l6Named.mono _ _
   | exact LeO.none _
   | refine LeO.ite ?_ ?_
   | refine LeO.bind ?_ (fun _ => ?_)
set_option maxHeartbeats 8000000 in
set_option maxRecDepth 100000 in
theorem spec_DrawFormatTerm.calls (k : Nat) (A0 : Option Addr) (c0 : Nat) (l0 : List Int) (r1 : Int) (r2 : Int) (r3 : Int) (w : World) (hr0 : Kd.C (Kd.int .u8) w A0 l0.length l0) (hc0 : l0.length ≤ c0) (h : spec_DrawFormatTerm.f k l0 = some (r1, r2, r3)) :
  Calls Try.prog 16 #[.slice A0 l0.length c0] w fun e w' => e = .returned (.tuple #[.int .i64 r1, .agg #[.int .i64 r2, .int .i64 r3]]) ∧ Below w.heap.size w w' := by
 have hu33 := Try.underlying33
 have HR0 := zA hr0
 have HC0 := zA hc0
 clear hr0 hc0
 have HB := zA (Below.refl w.heap.size w)
 have H := h
 unfold spec_DrawFormatTerm.f at H
 clear h
 replace H := Option.bind_eq_some_iff.mp H
 obtain ⟨⟨t410, t411, t412⟩, A20, H⟩ := H
 replace H : (some (t410, t411, t412)) = some (r1, r2, r3) := H
 have A2 := zA A20
 clear A20
 simp only [Option.some.injEq, Prod.mk.injEq] at H
 obtain ⟨rfl, rfl, rfl⟩ := H
 go_enter Try.func16, Try.ntmps16
 try go_wp2_with (first | ((with_reducible refine gate_dst (N := 3) rfl ?_); refine box_event ?hg (N := 3) ?hd (cs := #[.int .i64 0, .int .i64 0]) (t := 33) ?hr ?_; (case hd => rfl); (case hg => rfl); (case hr => exact zH); intro gb409 hg w3 hbox hb; have BK409 := zA (hbox); have GW409 := zg HB hg; have GE409 := zg HB hg; replace HB := zA (below_step (zB HB) hb); clear hb hbox hg) | ((with_reducible refine gate_callee (f := 47) rfl ?_); refine goesL_ (some 8) rfl rfl Try.func47 (by kernel_rfl) rfl #[.slice A0 l0.length c0] rfl zM ?_; (with_reducible refine (spec_l6Named.calls k _ _ l0 t410 t411 t412 _ ?side1 ?side2 A2.out).mono ?_); (case side1 => exact zC (Kd.C_below HR0.out HB.out)); (case side2 => exact HC0.out); rintro e w4 ⟨rfl, hb⟩; refine ⟨_, rfl, ?_⟩; replace BK409 := zb BK409 hb; replace HB := zA (below_step (zB1 HB GE409) hb); (try clear hb); (try clear hb2); (try clear hk); (try clear hi)) | ((with_reducible refine gate_dst (N := 5) rfl ?_); refine box_event ?hg (N := 5) ?hd (cs := #[.int .i64 0, .int .i64 0]) (t := 33) ?hr ?_; (case hd => rfl); (case hg => rfl); (case hr => exact zH); intro gb413 hg w5 hbox hb; have BK413 := zA (hbox); have GW413 := zg1 HB GE409 hg; have GE413 := zg1 HB GE409 hg; have NB409_413 := zn BK409 hg; have NB413_409 := zo BK409 hg; replace BK409 := zb BK409 hb; replace HB := zA (below_step (zB1 HB GE409) hb); clear hb hbox hg; have hnb6 := NB413_409.out; have hnc6 := NB409_413.out; have hcz7_0 := zc0 BK413; have hcz7_1 := zc1 BK413; have hfz7_0 := blk_frozen BK413.out 0; have hfz7_1 := blk_frozen BK413.out 1))
 have n0_ : Aside0 (((w5.setCell ⟨gb413, 0, none⟩ (.int .i64 t411)).setCell ⟨gb413, 1, none⟩ (.int .i64 t412)).heap[gb409]? = some (.cells #[.int .i64 0, .int .i64 0] 33 (0, 0))) := ⟨zF BK409 NB409_413⟩
 have n1_ : Aside0 (((w5.setCell ⟨gb413, 0, none⟩ (.int .i64 t411)).setCell ⟨gb413, 1, none⟩ (.int .i64 t412)).heap[gb413]? = some (.cells #[.int .i64 t411, .int .i64 t412] 33 (0, 0))) := ⟨zP BK413⟩
 have n2_ : Aside0 (Below w.heap.size w ((w5.setCell ⟨gb413, 0, none⟩ (.int .i64 t411)).setCell ⟨gb413, 1, none⟩ (.int .i64 t412))) := ⟨zB2 HB GE409 GE413⟩
 (try clear BK409)
 (try clear BK413)
 (try clear HB)
 generalize ((w5.setCell ⟨gb413, 0, none⟩ (.int .i64 t411)).setCell ⟨gb413, 1, none⟩ (.int .i64 t412)) = w8 at n0_ n1_ n2_ ⊢
 have BK409 := n0_
 have BK413 := n1_
 have HB := n2_
 clear n0_ n1_ n2_
 have n0_ := zA (blk_drew BK409.out)
 have n1_ := zA (blk_drew BK413.out)
 have n2_ := zA (below_drew1 HB.out)
 clear BK409
 clear BK413
 clear HB
 have BK409 := n0_
 have BK413 := n1_
 have HB := n2_
 clear n0_ n1_ n2_
 refine start_ (n := 4) (S := fun w' => w'.cell? ⟨gb413, 0, none⟩ = some (.int .i64 t411) ∧ w'.cell? ⟨gb413, 1, none⟩ = some (.int .i64 t412)) (ds := []) #[false, false, false, false] (by kernel_rfl) rfl rfl ⟨(blk_cell BK413.out 0).trans rfl, (blk_cell BK413.out 1).trans rfl⟩ (fun hHeld => ?_)
 generalize w8.drew = w9 at BK409 BK413 HB hHeld ⊢
 refine pure_ (i := 0) (N := some 11) (v := ?_) (a' := ?_) #[true, false, false, false] rfl rfl (by kernel_rfl) (fun _ _ _ h => h) (Or.inl ⟨by rfl, ?_⟩) ?_ ?_
 rotate_left
 ·intro w'
  go_simp
  with_reducible rfl
 rotate_left
 ·exact zU
 refine pure_ (i := 2) (N := some 2) (v := ?_) (a' := ?_) #[true, false, true, false] rfl rfl (by kernel_rfl) (fun _ _ _ h => h) (Or.inl ⟨by rfl, ?_⟩) ?_ ?_
 rotate_left
 ·intro w'
  go_simp
  with_reducible rfl
 rotate_left
 ·exact zU
 refine take_ (i := 1) (N := some 12) (v := ?_) (a' := ?_) #[true, true, true, false] rfl rfl (by kernel_rfl) (fun _ _ _ h => h) (Or.inl ⟨by rfl, ?_⟩) hHeld ?_ ?_
 rotate_left
 ·rintro w' ⟨s0, s1⟩
  go_simp
  with_reducible rfl
 rotate_left
 ·exact zU
 refine one_ (i := 3) (N := none) #[true, true, true, true] rfl rfl (by kernel_rfl) (by decide) (fun K hK => ?_)
 have hs10 : w9.cell? ⟨gb409, 0, none⟩ = some (.int .i64 0) := (blk_cell BK409.out 0).trans rfl
 have hfs10 := blk_frozen BK409.out 0
 have hns10_1 := NB413_409.out
 have hms10_1 := NB409_413.out
 have hs11 : w9.cell? ⟨gb409, 1, none⟩ = some (.int .i64 0) := (blk_cell BK409.out 1).trans rfl
 have hfs11 := blk_frozen BK409.out 1
 have hns11_1 := NB413_409.out
 have hms11_1 := NB409_413.out
 refine skip_ (w1 := ?_) (by rfl) rfl ?_ ?_
 rotate_left
 ·go_simp
  rfl
 refine hK.out _ _ ⟨((cell_far (p := ⟨gb409, _, none⟩) NB413_409.out _).trans (((cell_far (p := ⟨gb409, _, none⟩) NB413_409.out _).trans (hHeld.1)))), ((cell_far (p := ⟨gb409, _, none⟩) NB413_409.out _).trans (((cell_far (p := ⟨gb409, _, none⟩) NB413_409.out _).trans (hHeld.2))))⟩ (fun hHeld => ?_)
 clear hK K
 refine done_ (by kernel_rfl) ?_
 try go_wp2
 refine bodyPost_ret (results_tc rfl _ _ gb409 33 #[.int .i64 t411, .int .i64 t412] (0, 0) _ rfl (zP BK409) Try.underlying33 rfl (by kernel_rfl)) rfl ?_
 exact ⟨zE, zB2 HB GE409 GE413⟩

/-! ### spec_l1Text: function 71 -/
def spec_l1Text.l0 : Nat → List Int → Int → Int → List Int → Int → Int → Option (ByteArray × Int × Int)
 | 0, _, _, _, _, _, _ => none
 | k + 1, x5, x6, x7, x1000, x1001, x1002 => if x7 > 0 then ((spec_l1Byte.f x1000 x1001 x1002).bind fun bt442 => (if x6 = 1 then (if x6 = 2 then (if x5.length < 140737488355328 then (spec_l1Text.l0 k (x5 ++ [(wrap64 (97 + (Int.tmod (Int.tmod bt442.1 2) 4))) % 256]) x6 (wrap64 (x7 - 1)) x1000 bt442.2.1 bt442.2.2) else (none)) else (if x5.length < 140737488355328 then (spec_l1Text.l0 k (x5 ++ [(Int.tmod bt442.1 2) % 256]) x6 (wrap64 (x7 - 1)) x1000 bt442.2.1 bt442.2.2) else (none))) else (if x6 = 2 then (if x5.length < 140737488355328 then (spec_l1Text.l0 k (x5 ++ [(wrap64 (97 + (Int.tmod bt442.1 4))) % 256]) x6 (wrap64 (x7 - 1)) x1000 bt442.2.1 bt442.2.2) else (none)) else (if x5.length < 140737488355328 then (spec_l1Text.l0 k (x5 ++ [(bt442.1) % 256]) x6 (wrap64 (x7 - 1)) x1000 bt442.2.1 bt442.2.2) else (none))))) else (some (strOfNums x5, x1001, x1002))
def spec_l1Text.f (k : Nat) (s0_0 : List Int) (s0_1 : Int) (s0_2 : Int) (a1 : Int) : Option (ByteArray × Int × Int) := (spec_l1Below.f s0_0 s0_1 s0_2 4).bind fun bt436 => ((spec_l1Below.f s0_0 bt436.2.1 bt436.2.2 (wrap64 (a1 + 1))).bind fun bt439 => (spec_l1Text.l0 k (([] : List Int)) bt436.1 bt439.1 s0_0 bt439.2.1 bt439.2.2))
theorem spec_l1Text.mono_l : ∀ k, (∀ y0 y1 y2 y3 y4 y5, LeO (spec_l1Text.l0 k y0 y1 y2 y3 y4 y5) (spec_l1Text.l0 (k + 1) y0 y1 y2 y3 y4 y5))
 | 0 => fun _ _ _ _ _ _ r h => by simp [spec_l1Text.l0] at h
 | k + 1 => by
  have ih0 := spec_l1Text.mono_l k
  ·intro y0 y1 y2 y3 y4 y5
   unfold spec_l1Text.l0
   repeat' first
   | (with_reducible exact ih0 _ _ _ _ _ _)
   | (with_reducible exact LeO.refl _)
   | (with_reducible exact LeO.none _)
   | (with_reducible refine LeO.ite ?_ ?_)
   | (with_reducible refine LeO.bind ?_ (fun _ => ?_))
   | exact ih0 _ _ _ _ _ _
   | exact LeO.none _
   | refine LeO.ite ?_ ?_
   | refine LeO.bind ?_ (fun _ => ?_)
theorem spec_l1Text.mono : ∀ a0 a1 a2 a3 k, LeO (spec_l1Text.f k a0 a1 a2 a3) (spec_l1Text.f (k + 1) a0 a1 a2 a3) := by
 intro a0 a1 a2 a3 k
 have ih0 := spec_l1Text.mono_l k
 unfold spec_l1Text.f
 repeat' first
   | (with_reducible exact ih0 _ _ _ _ _ _)
   | (with_reducible exact LeO.refl _)
   | (with_reducible exact LeO.none _)
   | (with_reducible refine LeO.ite ?_ ?_)
   | (with_reducible refine LeO.bind ?_ (fun _ => ?_))
   | exact ih0 _ _ _ _ _ _
   | exact LeO.none _
   | refine LeO.ite ?_ ?_
   | refine LeO.bind ?_ (fun _ => ?_)
set_option maxHeartbeats 8000000 in
set_option maxRecDepth 100000 in
theorem spec_l1Text.calls (k : Nat) (g : Nat) (s0_0 : List Int) (s0_1 : Int) (s0_2 : Int) (a1 : Int) (r1 : ByteArray) (r2 : Int) (r3 : Int) (w0 w : World) (hI : IsS77 w0 w g s0_0 s0_1 s0_2) (hB : Below w0.heap.size w0 w) (h : spec_l1Text.f k s0_0 s0_1 s0_2 a1 = some (r1, r2, r3)) :
  Calls Try.prog 71 #[.pointer (some ⟨g, 0, none⟩), .int .i64 a1] w fun e w' => e = .returned (.string r1) ∧ IsS77 w0 w' g s0_0 r2 r3 ∧ Below w0.heap.size w0 w' ∧ KeepBut w w' g none := by
 have HI0 := zA hI
 have HK := zA (KeepBut.refl w g none)
 have HL := zA hB.size
 clear hI
 have HW0 := zA hB.size
 have HB := zA hB
 clear hB
 have H := h
 unfold spec_l1Text.f at H
 clear h
 obtain ⟨y433, hy433⟩ : ∃ y_ : List Int, y_ = (([] : List Int)) := ⟨_, rfl⟩
 replace H : ((spec_l1Below.f s0_0 s0_1 s0_2 4).bind fun bt436 => ((spec_l1Below.f s0_0 bt436.2.1 bt436.2.2 (wrap64 (a1 + 1))).bind fun bt439 => (spec_l1Text.l0 k y433 bt436.1 bt439.1 s0_0 bt439.2.1 bt439.2.2))) = some (r1, r2, r3) := by first | (rw [hy433]; with_reducible exact H) | (have H2_ := (Option.bind_some _ _).symm.trans H; rw [hy433]; with_reducible exact H2_) | (have H2_ := (Option.bind_some _ _).symm.trans H; with_reducible exact H2_) | with_reducible exact H | (rw [hy433]; exact H) | exact H
 have Ny433 := zA hy433
 clear hy433
 replace H := Option.bind_eq_some_iff.mp H
 obtain ⟨⟨t436, t437, t438⟩, A30, H⟩ := H
 have A3 := zA A30
 clear A30
 replace H := Option.bind_eq_some_iff.mp H
 obtain ⟨⟨t439, t440, t441⟩, A40, H⟩ := H
 replace H : (spec_l1Text.l0 k y433 t436 t439 s0_0 t440 t441) = some (r1, r2, r3) := H
 have A4 := zA A40
 clear A40
 have H' := zA H
 clear H
 go_enter Try.func71, Try.ntmps71
 go_wp2_with (first | ((with_reducible refine gate_dst (N := 9) rfl ?_); refine Kd.R_lit (Kd.int .u8) _ 5 ?hg (N := 9) ?hd (xs := ([] : List Int)) (inner := []) (ok := fun _ => True) (okp := fun _ => True) ?hr ?hp (fun _ hk => hk) trivial (Below.refl _ _) (Nat.le_refl _) (by simp) ?_; (case hd => rfl); (case hg => rfl); (case hr => exact zH); (case hp => exact (Reps.none _ _)); intro v434 w5 ho6 hb hg_ hnew_; clear hg_ hnew_; (first | rw [← Ny433.out] at ho6 | (simp only [Int.reduceToNat] at ho6; rw [← Ny433.out] at ho6)); have HO435 := zA (Kd.R_lower ho6 (keep_size (w := w) (g := g) (row := none) (zK HK))); replace HK := zA (KeepBut.trans (zK HK) (KeepBut.of_below hb g none) (.inl rfl)); replace HB := zA (below_step (zB1 HB (zA (IsS77.ge HI0.out))) hb); replace HI0 := zA (IsS77.below (zI HI0) hb); clear hb ho6) | ((with_reducible refine gate_callee (f := 52) rfl ?_); refine goesL_ (some 11) rfl rfl Try.func52 (by kernel_rfl) rfl #[.pointer (some ⟨g, 0, none⟩), .int .i64 4] rfl zM ?_; (with_reducible refine (spec_l1Below.calls g s0_0 s0_1 s0_2 4 t436 t437 t438 w0 _ ?side1 ?side2 A3.out).mono ?_); (case side1 => exact zI HI0); (case side2 => exact zB1 HB (zA (IsS77.ge HI0.out))); rintro e w7 ⟨rfl, hi, hb, hk⟩; refine ⟨_, rfl, ?_⟩; replace HO435 := zA (Kd.R_mono (Kd.R_keep (IsS77.apart (show IsS77 w0 _ g s0_0 s0_1 s0_2 from zI HI0) (zR HO435) (by decide)) hk (fun _ h => h.2)) (fun _ h => h.1)); replace HK := zA (KeepBut.trans (zK HK) hk (.inl rfl)); replace HB := zA (hb); replace HI0 := zA (hi); (try clear hb); (try clear hb2); (try clear hk); (try clear hi)) | ((with_reducible refine gate_callee (f := 52) rfl ?_); refine goesL_ (some 15) rfl rfl Try.func52 (by kernel_rfl) rfl #[.pointer (some ⟨g, 0, none⟩), .int .i64 (wrap64 (a1 + 1))] rfl zM ?_; (with_reducible refine (spec_l1Below.calls g s0_0 t437 t438 (wrap64 (a1 + 1)) t439 t440 t441 w0 _ ?side1 ?side2 A4.out).mono ?_); (case side1 => exact zI HI0); (case side2 => exact zB1 HB (zA (IsS77.ge HI0.out))); rintro e w8 ⟨rfl, hi, hb, hk⟩; refine ⟨_, rfl, ?_⟩; replace HO435 := zA (Kd.R_mono (Kd.R_keep (IsS77.apart (show IsS77 w0 _ g s0_0 t437 t438 from zI HI0) (zR HO435) (by decide)) hk (fun _ h => h.2)) (fun _ h => h.1)); replace HK := zA (KeepBut.trans (zK HK) hk (.inl rfl)); replace HB := zA (hb); replace HI0 := zA (hi); (try clear hb); (try clear hb2); (try clear hk); (try clear hi)))
 go_loopg [5, 7] k (fun kq v5 v7 w' => ∃ (x5_1 : List Int) (x7_1 : Int) (x1001_1 : Int) (x1002_1 : Int), v7 = .int .i64 x7_1 ∧ Aside0 (spec_l1Text.l0 kq x5_1 t436 x7_1 s0_0 x1001_1 x1002_1 = some (r1, r2, r3)) ∧ Aside0 (kq ≤ k) ∧ Aside0 (Kd.R (Kd.int .u8) 5 w' w.heap.size (fun _ => True) v5 x5_1) ∧ Aside0 (IsS77 w0 w' g s0_0 x1001_1 x1002_1) ∧ Aside0 (KeepBut w w' g none) ∧ Aside0 (Below w0.heap.size w0 w'))
 case atStart => exact ⟨(y433), (t439), (t440), (t441), zS, H', ⟨Nat.le_refl _⟩, ⟨zR HO435⟩, ⟨zI HI0⟩, ⟨zK HK⟩, ⟨zB1 HB (zA (IsS77.ge HI0.out))⟩⟩
 case round =>
  clear H'
  obtain ⟨x5_1, x7_1, x1001_1, x1002_1, rfl, HA, HK1, HO_5, HI0, HK, HB⟩ := hrel
  cases gk with
  | zero => exact absurd HA.out (by simp [spec_l1Text.l0])
  | succ k1 =>
   have H := HA.out
   clear HA
   simp only [spec_l1Text.l0] at H
   by_cases c9 : x7_1 > 0
   ·rw [if_pos c9] at H
    have c9b0 : decide (0 < x7_1) = true := decide_eq_true c9
    clear c9
    replace H := Option.bind_eq_some_iff.mp H
    obtain ⟨⟨t442, t443, t444⟩, A100, H⟩ := H
    replace H : (if t436 = 1 then (if t436 = 2 then (if x5_1.length < 140737488355328 then (spec_l1Text.l0 k1 (x5_1 ++ [(wrap64 (97 + (Int.tmod (Int.tmod t442 2) 4))) % 256]) t436 (wrap64 (x7_1 - 1)) s0_0 t443 t444) else (none)) else (if x5_1.length < 140737488355328 then (spec_l1Text.l0 k1 (x5_1 ++ [(Int.tmod t442 2) % 256]) t436 (wrap64 (x7_1 - 1)) s0_0 t443 t444) else (none))) else (if t436 = 2 then (if x5_1.length < 140737488355328 then (spec_l1Text.l0 k1 (x5_1 ++ [(wrap64 (97 + (Int.tmod t442 4))) % 256]) t436 (wrap64 (x7_1 - 1)) s0_0 t443 t444) else (none)) else (if x5_1.length < 140737488355328 then (spec_l1Text.l0 k1 (x5_1 ++ [(t442) % 256]) t436 (wrap64 (x7_1 - 1)) s0_0 t443 t444) else (none)))) = some (r1, r2, r3) := H
    have A10 := zA A100
    clear A100
    by_cases c11 : t436 = 1
    ·rw [if_pos c11] at H
     have c11b0 : (t436 == 1) = true := beq_iff_eq.mpr c11
     have c11b1 : (t436 != 1) = false := bne_eq_false_iff_eq.mpr c11
     clear c11
     by_cases c12 : t436 = 2
     ·rw [if_pos c12] at H
      have c12b0 : (t436 == 2) = true := beq_iff_eq.mpr c12
      have c12b1 : (t436 != 2) = false := bne_eq_false_iff_eq.mpr c12
      clear c12
      by_cases c13 : x5_1.length < 140737488355328
      ·rw [if_pos c13] at H
       have LMc13 := zA c13
       clear c13
       obtain ⟨y445, hy445⟩ : ∃ y_ : List Int, y_ = (x5_1 ++ [(wrap64 (97 + (Int.tmod (Int.tmod t442 2) 4))) % 256]) := ⟨_, rfl⟩
       replace H : (spec_l1Text.l0 k1 y445 t436 (wrap64 (x7_1 - 1)) s0_0 t443 t444) = some (r1, r2, r3) := by first | (rw [hy445]; with_reducible exact H) | (have H2_ := (Option.bind_some _ _).symm.trans H; rw [hy445]; with_reducible exact H2_) | (have H2_ := (Option.bind_some _ _).symm.trans H; with_reducible exact H2_) | with_reducible exact H | (rw [hy445]; exact H) | exact H
       have Ny445 := zA hy445
       clear hy445
       have H' := zA H
       clear H
       go_wp2_with (first | ((with_reducible refine gate_callee (f := 70) rfl ?_); refine goesL_ (some 21) rfl rfl Try.func70 (by kernel_rfl) rfl #[.pointer (some ⟨g, 0, none⟩)] rfl zM ?_; (with_reducible refine (spec_l1Byte.calls g s0_0 x1001_1 x1002_1 t442 t443 t444 w0 _ ?side1 ?side2 A10.out).mono ?_); (case side1 => exact zI HI0); (case side2 => exact zB1 HB (zA (IsS77.ge HI0.out))); rintro e w14 ⟨rfl, hi, hb, hk⟩; refine ⟨_, rfl, ?_⟩; replace HO_5 := zA (Kd.R_mono (Kd.R_keep (IsS77.apart (show IsS77 w0 _ g s0_0 x1001_1 x1002_1 from zI HI0) (zR HO_5) (by decide)) hk (fun _ h => h.2)) (fun _ h => h.1)); replace HK := zA (KeepBut.trans (zK HK) hk (.inl rfl)); replace HB := zA (hb); replace HI0 := zA (hi); (try clear hb); (try clear hb2); (try clear hk); (try clear hi)) | ((with_reducible refine gate_builtin (b := .append) (xs := #[.tmp 31, .tmp 34]) rfl ?_); at_builtin; refine Kd.R_append (Kd.int .u8) w.heap.size rfl (.tmp 31) (.tmp 34) 22 5 (.int .u8 0) 1 rfl Try.underlying22 info5 rfl (by decide) (by omega) u5 x5_1 ((wrap64 (97 + (Int.tmod (Int.tmod t442 2) 4))) % 256) [.int .u8 ((wrap64 (97 + (Int.tmod (Int.tmod t442 2) 4))) % 256)] (fun _ => True) (fun _ => False) rfl rfl ?aP (fun _ hk => hk.elim) ?aF ?aO (Below.refl _ _) ?aS ?aL ?_; (case aP => exact rfl); (case aF => exact (fun _ _ => trivial)); (case aO => exact (zR HO_5)); (case aS => exact (keep_size (w := w) (g := g) (row := none) (zK HK))); (case aL => have := LMc13.out; omega); intro v446 w15 ho hb hg hat; rw [← Ny445.out] at ho; have n0_ := zA (IsS77.grown (zI HI0) hg (IsS77.own_ne HI0.out HO_5.out (by decide))); have n1_ := zA (below_weaken (zB1 HB (zA (IsS77.ge HI0.out))) HL.out hb); have n2_ := zA (KeepBut.trans (zK HK) (KeepBut.of_grown hg g) (Kd.R_base2 HO_5.out)); have n3_ := zA (ho); clear HI0; clear HB; clear HK; clear HO_5; have HI0 := n0_; have HB := n1_; have HK := n2_; have HO447 := n3_; clear n0_ n1_ n2_ n3_; clear ho hb hg hat))
       go_roundg k1
       case measure => have := HK1.out; omega
       case rel => exact ⟨(y445), (wrap64 (x7_1 - 1)), (t443), (t444), zS, H', ⟨by have := HK1.out; omega⟩, ⟨zR HO447⟩, ⟨zI HI0⟩, ⟨zK HK⟩, ⟨zB1 HB (zA (IsS77.ge HI0.out))⟩⟩
      ·rw [if_neg c13] at H
       exact absurd H (by simp)
     ·rw [if_neg c12] at H
      have c12b0 : (t436 == 2) = false := beq_eq_false_iff_ne.mpr c12
      have c12b1 : (t436 != 2) = true := bne_iff_ne.mpr c12
      by_cases c16 : x5_1.length < 140737488355328
      ·rw [if_pos c16] at H
       have LMc16 := zA c16
       clear c16
       obtain ⟨y448, hy448⟩ : ∃ y_ : List Int, y_ = (x5_1 ++ [(Int.tmod t442 2) % 256]) := ⟨_, rfl⟩
       replace H : (spec_l1Text.l0 k1 y448 t436 (wrap64 (x7_1 - 1)) s0_0 t443 t444) = some (r1, r2, r3) := by first | (rw [hy448]; with_reducible exact H) | (have H2_ := (Option.bind_some _ _).symm.trans H; rw [hy448]; with_reducible exact H2_) | (have H2_ := (Option.bind_some _ _).symm.trans H; with_reducible exact H2_) | with_reducible exact H | (rw [hy448]; exact H) | exact H
       have Ny448 := zA hy448
       clear hy448
       have H' := zA H
       clear H
       go_wp2_with (first | ((with_reducible refine gate_callee (f := 70) rfl ?_); refine goesL_ (some 21) rfl rfl Try.func70 (by kernel_rfl) rfl #[.pointer (some ⟨g, 0, none⟩)] rfl zM ?_; (with_reducible refine (spec_l1Byte.calls g s0_0 x1001_1 x1002_1 t442 t443 t444 w0 _ ?side1 ?side2 A10.out).mono ?_); (case side1 => exact zI HI0); (case side2 => exact zB1 HB (zA (IsS77.ge HI0.out))); rintro e w17 ⟨rfl, hi, hb, hk⟩; refine ⟨_, rfl, ?_⟩; replace HO_5 := zA (Kd.R_mono (Kd.R_keep (IsS77.apart (show IsS77 w0 _ g s0_0 x1001_1 x1002_1 from zI HI0) (zR HO_5) (by decide)) hk (fun _ h => h.2)) (fun _ h => h.1)); replace HK := zA (KeepBut.trans (zK HK) hk (.inl rfl)); replace HB := zA (hb); replace HI0 := zA (hi); (try clear hb); (try clear hb2); (try clear hk); (try clear hi)) | ((with_reducible refine gate_builtin (b := .append) (xs := #[.tmp 31, .tmp 34]) rfl ?_); at_builtin; refine Kd.R_append (Kd.int .u8) w.heap.size rfl (.tmp 31) (.tmp 34) 22 5 (.int .u8 0) 1 rfl Try.underlying22 info5 rfl (by decide) (by omega) u5 x5_1 ((Int.tmod t442 2) % 256) [.int .u8 ((Int.tmod t442 2) % 256)] (fun _ => True) (fun _ => False) rfl rfl ?aP (fun _ hk => hk.elim) ?aF ?aO (Below.refl _ _) ?aS ?aL ?_; (case aP => exact rfl); (case aF => exact (fun _ _ => trivial)); (case aO => exact (zR HO_5)); (case aS => exact (keep_size (w := w) (g := g) (row := none) (zK HK))); (case aL => have := LMc16.out; omega); intro v449 w18 ho hb hg hat; rw [← Ny448.out] at ho; have n0_ := zA (IsS77.grown (zI HI0) hg (IsS77.own_ne HI0.out HO_5.out (by decide))); have n1_ := zA (below_weaken (zB1 HB (zA (IsS77.ge HI0.out))) HL.out hb); have n2_ := zA (KeepBut.trans (zK HK) (KeepBut.of_grown hg g) (Kd.R_base2 HO_5.out)); have n3_ := zA (ho); clear HI0; clear HB; clear HK; clear HO_5; have HI0 := n0_; have HB := n1_; have HK := n2_; have HO450 := n3_; clear n0_ n1_ n2_ n3_; clear ho hb hg hat))
       go_roundg k1
       case measure => have := HK1.out; omega
       case rel => exact ⟨(y448), (wrap64 (x7_1 - 1)), (t443), (t444), zS, H', ⟨by have := HK1.out; omega⟩, ⟨zR HO450⟩, ⟨zI HI0⟩, ⟨zK HK⟩, ⟨zB1 HB (zA (IsS77.ge HI0.out))⟩⟩
      ·rw [if_neg c16] at H
       exact absurd H (by simp)
    ·rw [if_neg c11] at H
     have c11b0 : (t436 == 1) = false := beq_eq_false_iff_ne.mpr c11
     have c11b1 : (t436 != 1) = true := bne_iff_ne.mpr c11
     by_cases c19 : t436 = 2
     ·rw [if_pos c19] at H
      have c19b0 : (t436 == 2) = true := beq_iff_eq.mpr c19
      have c19b1 : (t436 != 2) = false := bne_eq_false_iff_eq.mpr c19
      clear c19
      by_cases c20 : x5_1.length < 140737488355328
      ·rw [if_pos c20] at H
       have LMc20 := zA c20
       clear c20
       obtain ⟨y451, hy451⟩ : ∃ y_ : List Int, y_ = (x5_1 ++ [(wrap64 (97 + (Int.tmod t442 4))) % 256]) := ⟨_, rfl⟩
       replace H : (spec_l1Text.l0 k1 y451 t436 (wrap64 (x7_1 - 1)) s0_0 t443 t444) = some (r1, r2, r3) := by first | (rw [hy451]; with_reducible exact H) | (have H2_ := (Option.bind_some _ _).symm.trans H; rw [hy451]; with_reducible exact H2_) | (have H2_ := (Option.bind_some _ _).symm.trans H; with_reducible exact H2_) | with_reducible exact H | (rw [hy451]; exact H) | exact H
       have Ny451 := zA hy451
       clear hy451
       have H' := zA H
       clear H
       go_wp2_with (first | ((with_reducible refine gate_callee (f := 70) rfl ?_); refine goesL_ (some 21) rfl rfl Try.func70 (by kernel_rfl) rfl #[.pointer (some ⟨g, 0, none⟩)] rfl zM ?_; (with_reducible refine (spec_l1Byte.calls g s0_0 x1001_1 x1002_1 t442 t443 t444 w0 _ ?side1 ?side2 A10.out).mono ?_); (case side1 => exact zI HI0); (case side2 => exact zB1 HB (zA (IsS77.ge HI0.out))); rintro e w21 ⟨rfl, hi, hb, hk⟩; refine ⟨_, rfl, ?_⟩; replace HO_5 := zA (Kd.R_mono (Kd.R_keep (IsS77.apart (show IsS77 w0 _ g s0_0 x1001_1 x1002_1 from zI HI0) (zR HO_5) (by decide)) hk (fun _ h => h.2)) (fun _ h => h.1)); replace HK := zA (KeepBut.trans (zK HK) hk (.inl rfl)); replace HB := zA (hb); replace HI0 := zA (hi); (try clear hb); (try clear hb2); (try clear hk); (try clear hi)) | ((with_reducible refine gate_builtin (b := .append) (xs := #[.tmp 31, .tmp 34]) rfl ?_); at_builtin; refine Kd.R_append (Kd.int .u8) w.heap.size rfl (.tmp 31) (.tmp 34) 22 5 (.int .u8 0) 1 rfl Try.underlying22 info5 rfl (by decide) (by omega) u5 x5_1 ((wrap64 (97 + (Int.tmod t442 4))) % 256) [.int .u8 ((wrap64 (97 + (Int.tmod t442 4))) % 256)] (fun _ => True) (fun _ => False) rfl rfl ?aP (fun _ hk => hk.elim) ?aF ?aO (Below.refl _ _) ?aS ?aL ?_; (case aP => exact rfl); (case aF => exact (fun _ _ => trivial)); (case aO => exact (zR HO_5)); (case aS => exact (keep_size (w := w) (g := g) (row := none) (zK HK))); (case aL => have := LMc20.out; omega); intro v452 w22 ho hb hg hat; rw [← Ny451.out] at ho; have n0_ := zA (IsS77.grown (zI HI0) hg (IsS77.own_ne HI0.out HO_5.out (by decide))); have n1_ := zA (below_weaken (zB1 HB (zA (IsS77.ge HI0.out))) HL.out hb); have n2_ := zA (KeepBut.trans (zK HK) (KeepBut.of_grown hg g) (Kd.R_base2 HO_5.out)); have n3_ := zA (ho); clear HI0; clear HB; clear HK; clear HO_5; have HI0 := n0_; have HB := n1_; have HK := n2_; have HO453 := n3_; clear n0_ n1_ n2_ n3_; clear ho hb hg hat))
       go_roundg k1
       case measure => have := HK1.out; omega
       case rel => exact ⟨(y451), (wrap64 (x7_1 - 1)), (t443), (t444), zS, H', ⟨by have := HK1.out; omega⟩, ⟨zR HO453⟩, ⟨zI HI0⟩, ⟨zK HK⟩, ⟨zB1 HB (zA (IsS77.ge HI0.out))⟩⟩
      ·rw [if_neg c20] at H
       exact absurd H (by simp)
     ·rw [if_neg c19] at H
      have c19b0 : (t436 == 2) = false := beq_eq_false_iff_ne.mpr c19
      have c19b1 : (t436 != 2) = true := bne_iff_ne.mpr c19
      by_cases c23 : x5_1.length < 140737488355328
      ·rw [if_pos c23] at H
       have LMc23 := zA c23
       clear c23
       obtain ⟨y454, hy454⟩ : ∃ y_ : List Int, y_ = (x5_1 ++ [(t442) % 256]) := ⟨_, rfl⟩
       replace H : (spec_l1Text.l0 k1 y454 t436 (wrap64 (x7_1 - 1)) s0_0 t443 t444) = some (r1, r2, r3) := by first | (rw [hy454]; with_reducible exact H) | (have H2_ := (Option.bind_some _ _).symm.trans H; rw [hy454]; with_reducible exact H2_) | (have H2_ := (Option.bind_some _ _).symm.trans H; with_reducible exact H2_) | with_reducible exact H | (rw [hy454]; exact H) | exact H
       have Ny454 := zA hy454
       clear hy454
       have H' := zA H
       clear H
       go_wp2_with (first | ((with_reducible refine gate_callee (f := 70) rfl ?_); refine goesL_ (some 21) rfl rfl Try.func70 (by kernel_rfl) rfl #[.pointer (some ⟨g, 0, none⟩)] rfl zM ?_; (with_reducible refine (spec_l1Byte.calls g s0_0 x1001_1 x1002_1 t442 t443 t444 w0 _ ?side1 ?side2 A10.out).mono ?_); (case side1 => exact zI HI0); (case side2 => exact zB1 HB (zA (IsS77.ge HI0.out))); rintro e w24 ⟨rfl, hi, hb, hk⟩; refine ⟨_, rfl, ?_⟩; replace HO_5 := zA (Kd.R_mono (Kd.R_keep (IsS77.apart (show IsS77 w0 _ g s0_0 x1001_1 x1002_1 from zI HI0) (zR HO_5) (by decide)) hk (fun _ h => h.2)) (fun _ h => h.1)); replace HK := zA (KeepBut.trans (zK HK) hk (.inl rfl)); replace HB := zA (hb); replace HI0 := zA (hi); (try clear hb); (try clear hb2); (try clear hk); (try clear hi)) | ((with_reducible refine gate_builtin (b := .append) (xs := #[.tmp 31, .tmp 34]) rfl ?_); at_builtin; refine Kd.R_append (Kd.int .u8) w.heap.size rfl (.tmp 31) (.tmp 34) 22 5 (.int .u8 0) 1 rfl Try.underlying22 info5 rfl (by decide) (by omega) u5 x5_1 ((t442) % 256) [.int .u8 ((t442) % 256)] (fun _ => True) (fun _ => False) rfl rfl ?aP (fun _ hk => hk.elim) ?aF ?aO (Below.refl _ _) ?aS ?aL ?_; (case aP => exact rfl); (case aF => exact (fun _ _ => trivial)); (case aO => exact (zR HO_5)); (case aS => exact (keep_size (w := w) (g := g) (row := none) (zK HK))); (case aL => have := LMc23.out; omega); intro v455 w25 ho hb hg hat; rw [← Ny454.out] at ho; have n0_ := zA (IsS77.grown (zI HI0) hg (IsS77.own_ne HI0.out HO_5.out (by decide))); have n1_ := zA (below_weaken (zB1 HB (zA (IsS77.ge HI0.out))) HL.out hb); have n2_ := zA (KeepBut.trans (zK HK) (KeepBut.of_grown hg g) (Kd.R_base2 HO_5.out)); have n3_ := zA (ho); clear HI0; clear HB; clear HK; clear HO_5; have HI0 := n0_; have HB := n1_; have HK := n2_; have HO456 := n3_; clear n0_ n1_ n2_ n3_; clear ho hb hg hat))
       go_roundg k1
       case measure => have := HK1.out; omega
       case rel => exact ⟨(y454), (wrap64 (x7_1 - 1)), (t443), (t444), zS, H', ⟨by have := HK1.out; omega⟩, ⟨zR HO456⟩, ⟨zI HI0⟩, ⟨zK HK⟩, ⟨zB1 HB (zA (IsS77.ge HI0.out))⟩⟩
      ·rw [if_neg c23] at H
       exact absurd H (by simp)
   ·rw [if_neg c9] at H
    have c9b0 : decide (0 < x7_1) = false := decide_eq_false c9
    clear c9
    simp only [Option.some.injEq, Prod.mk.injEq] at H
    obtain ⟨rfl, rfl, rfl⟩ := H
    have hcv26 := own_string (P := Try.prog) Try.underlying22 Try.underlying5 Try.underlying9 (Kd.own_of_R HO_5.out)
    go_wp2
    go_ret
    exact ⟨zE, zI HI0, zB1 HB (zA (IsS77.ge HI0.out)), zK HK⟩

/-! ### spec_l1Spoil: function 53 -/
def spec_l1Spoil.f (k : Nat) (s0_0 : List Int) (s0_1 : Int) (s0_2 : Int) (a1 : ByteArray) : Option (ByteArray × Int × Int) := if (a1.size : Int) = 0 then ((spec_l1Text.f k s0_0 s0_1 s0_2 3).bind fun bt457 => (some (bt457.1, bt457.2.1, bt457.2.2))) else ((spec_l1Below.f s0_0 s0_1 s0_2 (a1.size : Int)).bind fun bt460 => ((spec_l1Below.f s0_0 bt460.2.1 bt460.2.2 4).bind fun bt463 => (if bt463.1 = 0 then (if 0 ≤ bt460.1 then (if bt460.1 ≤ (a1.size : Int) then (if 0 ≤ (wrap64 (bt460.1 + 1)) then (if (wrap64 (bt460.1 + 1)) ≤ (a1.size : Int) then (if (a1.extract 0 (bt460.1 : Int).toNat).size + (a1.extract ((wrap64 (bt460.1 + 1)) : Int).toNat a1.size).size ≤ 9223372036854775807 then (some ((a1.extract 0 (bt460.1 : Int).toNat) ++ (a1.extract ((wrap64 (bt460.1 + 1)) : Int).toNat a1.size), bt463.2.1, bt463.2.2)) else (none)) else (none)) else (none)) else (none)) else (none)) else (if bt463.1 = 1 then (if 0 ≤ bt460.1 then (if bt460.1 ≤ (a1.size : Int) then ((spec_l1Byte.f s0_0 bt463.2.1 bt463.2.2).bind fun bt466 => ((some (([(bt466.1) % 256] : List Int) : List Int)).bind fun y469 => (if (a1.extract 0 (bt460.1 : Int).toNat).size + (strOfNums y469).size ≤ 9223372036854775807 then (if ((a1.extract 0 (bt460.1 : Int).toNat) ++ (strOfNums y469)).size + (a1.extract (bt460.1 : Int).toNat a1.size).size ≤ 9223372036854775807 then (some (((a1.extract 0 (bt460.1 : Int).toNat) ++ (strOfNums y469)) ++ (a1.extract (bt460.1 : Int).toNat a1.size), bt466.2.1, bt466.2.2)) else (none)) else (none)))) else (none)) else (none)) else (if bt463.1 = 2 then (if 0 ≤ bt460.1 then (if bt460.1 ≤ (a1.size : Int) then (some (a1.extract 0 (bt460.1 : Int).toNat, bt463.2.1, bt463.2.2)) else (none)) else (none)) else (if 0 ≤ bt460.1 then (if bt460.1 ≤ (a1.size : Int) then (if bt460.1 < (a1.size : Int) then ((spec_l1Below.f s0_0 bt463.2.1 bt463.2.2 255).bind fun bt472 => ((some (([(Go.bits .xor .i64 (wrap64 (bt a1 bt460.1)) (wrap64 (1 + bt472.1))) % 256] : List Int) : List Int)).bind fun y475 => (if (a1.extract 0 (bt460.1 : Int).toNat).size + (strOfNums y475).size ≤ 9223372036854775807 then (if 0 ≤ (wrap64 (bt460.1 + 1)) then (if (wrap64 (bt460.1 + 1)) ≤ (a1.size : Int) then (if ((a1.extract 0 (bt460.1 : Int).toNat) ++ (strOfNums y475)).size + (a1.extract ((wrap64 (bt460.1 + 1)) : Int).toNat a1.size).size ≤ 9223372036854775807 then (some (((a1.extract 0 (bt460.1 : Int).toNat) ++ (strOfNums y475)) ++ (a1.extract ((wrap64 (bt460.1 + 1)) : Int).toNat a1.size), bt472.2.1, bt472.2.2)) else (none)) else (none)) else (none)) else (none)))) else (none)) else (none)) else (none)))))))
theorem spec_l1Spoil.mono : ∀ a0 a1 a2 a3 k, LeO (spec_l1Spoil.f k a0 a1 a2 a3) (spec_l1Spoil.f (k + 1) a0 a1 a2 a3) := by
 intro a0 a1 a2 a3 k
 unfold spec_l1Spoil.f
 repeat' first
   | (with_reducible exact spec_l1Text.mono _ _ _ _ _)
   | (with_reducible exact LeO.refl _)
   | (with_reducible exact LeO.none _)
   | (with_reducible refine LeO.ite ?_ ?_)
   | (with_reducible refine LeO.bind ?_ (fun _ => ?_))
   | exact spec_l1Text.mono _ _ _ _ _
   | exact LeO.none _
   | refine LeO.ite ?_ ?_
   | refine LeO.bind ?_ (fun _ => ?_)
def spec_l1Spoil.T6 : Bool × List (List Nat × List Nat) := (true, [([], []), ([], []), ([0, 1], [0, 1]), ([], []), ([], []), ([4], [4]), ([3, 5], [3, 5]), ([2, 6], [2, 6]), ([7, 0, 1, 2, 3, 4, 5, 6, 7], [7])])
def spec_l1Spoil.B6 : List Nat := [0, 0, 3, 0, 0, 16, 56, 127, 255]
theorem spec_l1Spoil.tab6 : rtab .any (opsOf Try.f53 6) = spec_l1Spoil.T6 := by kernel_rfl
theorem spec_l1Spoil.bits6 : waitsOk spec_l1Spoil.T6.2 spec_l1Spoil.B6 = true := by kernel_rfl
def spec_l1Spoil.T8 : Bool × List (List Nat × List Nat) := (true, [([], []), ([], []), ([0, 1], [0, 1]), ([], []), ([3], [3]), ([4], [4]), ([5], [5]), ([6], [6]), ([2, 7], [2, 7]), ([], []), ([], []), ([9, 10], [9, 10]), ([8, 11], [8, 11]), ([12, 4, 0, 1, 2, 3, 4, 5, 6, 7, 8, 9, 10, 11, 12], [12])])
def spec_l1Spoil.B8 : List Nat := [0, 0, 3, 0, 8, 24, 56, 120, 255, 0, 0, 1536, 4095, 8191]
theorem spec_l1Spoil.tab8 : rtab .any (opsOf Try.f53 8) = spec_l1Spoil.T8 := by kernel_rfl
theorem spec_l1Spoil.bits8 : waitsOk spec_l1Spoil.T8.2 spec_l1Spoil.B8 = true := by kernel_rfl
def spec_l1Spoil.T11 : Bool × List (List Nat × List Nat) := (true, [([], []), ([], []), ([0, 1], [0, 1]), ([], []), ([], []), ([3, 4], [3, 4]), ([5], [5]), ([], []), ([7], [7]), ([8], [8]), ([6, 9], [6, 9]), ([10], [10]), ([11], [11]), ([12], [12]), ([2, 13], [2, 13]), ([], []), ([], []), ([16], [16]), ([15, 17], [15, 17]), ([14, 18], [14, 18]), ([19, 8, 0, 1, 2, 3, 4, 5, 6, 7, 8, 9, 10, 11, 12, 13, 14, 15, 16, 17, 18, 19], [19])])
def spec_l1Spoil.B11 : List Nat := [0, 0, 3, 0, 0, 24, 56, 0, 128, 384, 1016, 2040, 4088, 8184, 16383, 0, 0, 65536, 229376, 524287, 1048575]
theorem spec_l1Spoil.tab11 : rtab .any (opsOf Try.f53 11) = spec_l1Spoil.T11 := by kernel_rfl
theorem spec_l1Spoil.bits11 : waitsOk spec_l1Spoil.T11.2 spec_l1Spoil.B11 = true := by kernel_rfl
set_option maxHeartbeats 8000000 in
set_option maxRecDepth 100000 in
theorem spec_l1Spoil.calls (k : Nat) (g : Nat) (s0_0 : List Int) (s0_1 : Int) (s0_2 : Int) (a1 : ByteArray) (r1 : ByteArray) (r2 : Int) (r3 : Int) (w0 w : World) (hI : IsS77 w0 w g s0_0 s0_1 s0_2) (hB : Below w0.heap.size w0 w) (h : spec_l1Spoil.f k s0_0 s0_1 s0_2 a1 = some (r1, r2, r3)) :
  Calls Try.prog 53 #[.pointer (some ⟨g, 0, none⟩), .string a1] w fun e w' => e = .returned (.string r1) ∧ IsS77 w0 w' g s0_0 r2 r3 ∧ Below w0.heap.size w0 w' ∧ KeepBut w w' g none := by
 have HI0 := zA hI
 have HK := zA (KeepBut.refl w g none)
 have HL := zA hB.size
 clear hI
 have HW0 := zA hB.size
 have HB := zA hB
 clear hB
 have H := h
 unfold spec_l1Spoil.f at H
 clear h
 by_cases c3 : (a1.size : Int) = 0
 ·rw [if_pos c3] at H
  have c3b0 : ((a1.size : Int) == 0) = true := beq_iff_eq.mpr c3
  have c3b1 : ((a1.size : Int) != 0) = false := bne_eq_false_iff_eq.mpr c3
  clear c3
  replace H := Option.bind_eq_some_iff.mp H
  obtain ⟨⟨t457, t458, t459⟩, A40, H⟩ := H
  replace H : (some (t457, t458, t459)) = some (r1, r2, r3) := H
  have A4 := zA A40
  clear A40
  simp only [Option.some.injEq, Prod.mk.injEq] at H
  obtain ⟨rfl, rfl, rfl⟩ := H
  go_enter Try.func53, Try.ntmps53
  go_wp2_with (first | ((with_reducible refine gate_callee (f := 71) rfl ?_); refine goesL_ (some 10) rfl rfl Try.func71 (by kernel_rfl) rfl #[.pointer (some ⟨g, 0, none⟩), .int .i64 3] rfl zM ?_; (with_reducible refine (spec_l1Text.calls k g s0_0 s0_1 s0_2 3 t457 t458 t459 w0 _ ?side1 ?side2 A4.out).mono ?_); (case side1 => exact zI HI0); (case side2 => exact zB1 HB (zA (IsS77.ge HI0.out))); rintro e w5 ⟨rfl, hi, hb, hk⟩; refine ⟨_, rfl, ?_⟩; replace HK := zA (KeepBut.trans (zK HK) hk (.inl rfl)); replace HB := zA (hb); replace HI0 := zA (hi); (try clear hb); (try clear hb2); (try clear hk); (try clear hi)))
  go_ret
  exact ⟨zE, zI HI0, zB1 HB (zA (IsS77.ge HI0.out)), zK HK⟩
 ·rw [if_neg c3] at H
  have c3b0 : ((a1.size : Int) == 0) = false := beq_eq_false_iff_ne.mpr c3
  have c3b1 : ((a1.size : Int) != 0) = true := bne_iff_ne.mpr c3
  replace H := Option.bind_eq_some_iff.mp H
  obtain ⟨⟨t460, t461, t462⟩, A60, H⟩ := H
  have A6 := zA A60
  clear A60
  replace H := Option.bind_eq_some_iff.mp H
  obtain ⟨⟨t463, t464, t465⟩, A70, H⟩ := H
  replace H : (if t463 = 0 then (if 0 ≤ t460 then (if t460 ≤ (a1.size : Int) then (if 0 ≤ (wrap64 (t460 + 1)) then (if (wrap64 (t460 + 1)) ≤ (a1.size : Int) then (if (a1.extract 0 (t460 : Int).toNat).size + (a1.extract ((wrap64 (t460 + 1)) : Int).toNat a1.size).size ≤ 9223372036854775807 then (some ((a1.extract 0 (t460 : Int).toNat) ++ (a1.extract ((wrap64 (t460 + 1)) : Int).toNat a1.size), t464, t465)) else (none)) else (none)) else (none)) else (none)) else (none)) else (if t463 = 1 then (if 0 ≤ t460 then (if t460 ≤ (a1.size : Int) then ((spec_l1Byte.f s0_0 t464 t465).bind fun bt466 => ((some (([(bt466.1) % 256] : List Int) : List Int)).bind fun y469 => (if (a1.extract 0 (t460 : Int).toNat).size + (strOfNums y469).size ≤ 9223372036854775807 then (if ((a1.extract 0 (t460 : Int).toNat) ++ (strOfNums y469)).size + (a1.extract (t460 : Int).toNat a1.size).size ≤ 9223372036854775807 then (some (((a1.extract 0 (t460 : Int).toNat) ++ (strOfNums y469)) ++ (a1.extract (t460 : Int).toNat a1.size), bt466.2.1, bt466.2.2)) else (none)) else (none)))) else (none)) else (none)) else (if t463 = 2 then (if 0 ≤ t460 then (if t460 ≤ (a1.size : Int) then (some (a1.extract 0 (t460 : Int).toNat, t464, t465)) else (none)) else (none)) else (if 0 ≤ t460 then (if t460 ≤ (a1.size : Int) then (if t460 < (a1.size : Int) then ((spec_l1Below.f s0_0 t464 t465 255).bind fun bt472 => ((some (([(Go.bits .xor .i64 (wrap64 (bt a1 t460)) (wrap64 (1 + bt472.1))) % 256] : List Int) : List Int)).bind fun y475 => (if (a1.extract 0 (t460 : Int).toNat).size + (strOfNums y475).size ≤ 9223372036854775807 then (if 0 ≤ (wrap64 (t460 + 1)) then (if (wrap64 (t460 + 1)) ≤ (a1.size : Int) then (if ((a1.extract 0 (t460 : Int).toNat) ++ (strOfNums y475)).size + (a1.extract ((wrap64 (t460 + 1)) : Int).toNat a1.size).size ≤ 9223372036854775807 then (some (((a1.extract 0 (t460 : Int).toNat) ++ (strOfNums y475)) ++ (a1.extract ((wrap64 (t460 + 1)) : Int).toNat a1.size), bt472.2.1, bt472.2.2)) else (none)) else (none)) else (none)) else (none)))) else (none)) else (none)) else (none))))) = some (r1, r2, r3) := H
  have A7 := zA A70
  clear A70
  by_cases c8 : t463 = 0
  ·rw [if_pos c8] at H
   have c8b0 : (t463 == 0) = true := beq_iff_eq.mpr c8
   have c8b1 : (t463 != 0) = false := bne_eq_false_iff_eq.mpr c8
   clear c8
   by_cases c9 : 0 ≤ t460
   ·rw [if_pos c9] at H
    have c9b0 := eq_true c9
    have c9b1 : decide (0 ≤ t460) = true := decide_eq_true c9
    clear c9
    by_cases c10 : t460 ≤ (a1.size : Int)
    ·rw [if_pos c10] at H
     have c10b0 := eq_true c10
     have c10b1 : decide (t460 ≤ (a1.size : Int)) = true := decide_eq_true c10
     clear c10
     obtain ⟨ji11, hji11⟩ : ∃ j_ : Int, (wrap64 (t460 + 1)) = j_ := ⟨_, rfl⟩
     replace H : (if 0 ≤ (ji11) then (if (ji11) ≤ (a1.size : Int) then (if (a1.extract 0 (t460 : Int).toNat).size + (a1.extract ((ji11) : Int).toNat a1.size).size ≤ 9223372036854775807 then (some ((a1.extract 0 (t460 : Int).toNat) ++ (a1.extract ((ji11) : Int).toNat a1.size), t464, t465)) else (none)) else (none)) else (none)) = some (r1, r2, r3) := by first | (rw [hji11] at H; exact H) | (simp only [hji11] at H ⊢; exact H)
     (try rw [hji11] at A6)
     (try rw [hji11] at A7)
     have hji11w : (IntKind.i64.wrap (t460 + 1)) = ji11 := (i64_w _).trans hji11
     by_cases c12 : 0 ≤ (ji11)
     ·rw [if_pos c12] at H
      have c12b0 := eq_true c12
      have c12b1 : decide (0 ≤ (ji11)) = true := decide_eq_true c12
      clear c12
      by_cases c13 : (ji11) ≤ (a1.size : Int)
      ·rw [if_pos c13] at H
       have c13b0 := eq_true c13
       have c13b1 : decide ((ji11) ≤ (a1.size : Int)) = true := decide_eq_true c13
       clear c13
       by_cases c14 : (a1.extract 0 (t460 : Int).toNat).size + (a1.extract ((ji11) : Int).toNat a1.size).size ≤ 9223372036854775807
       ·rw [if_pos c14] at H
        have c14b0 := eq_true c14
        have c14b1 : decide ((a1.extract 0 (t460 : Int).toNat).size + (a1.extract ((ji11) : Int).toNat a1.size).size ≤ 9223372036854775807) = true := decide_eq_true c14
        try have c14b2 : (9223372036854775807 < (a1.extract 0 (t460 : Int).toNat).size + (a1.extract ((ji11) : Int).toNat a1.size).size) = False := eq_false (Nat.not_lt.2 c14)
        have c14b3 : (9223372036854775807 < t460.toNat + (a1.size - ji11.toNat)) = False := eq_false (by have h_ := c14; simp only [ByteArray.size_append, ByteArray.size_extract] at h_; have t_ : t460 ≤ (a1.size : Int) := of_decide_eq_true (by assumption); omega)
        simp only [Option.some.injEq, Prod.mk.injEq] at H
        obtain ⟨rfl, rfl, rfl⟩ := H
        go_enter Try.func53, Try.ntmps53
        try go_wp2_with (first | ((with_reducible refine gate_callee (f := 52) rfl ?_); refine goesL_ (some 14) rfl rfl Try.func52 (by kernel_rfl) rfl #[.pointer (some ⟨g, 0, none⟩), .int .i64 (a1.size : Int)] rfl zM ?_; (with_reducible refine (spec_l1Below.calls g s0_0 s0_1 s0_2 (a1.size : Int) t460 t461 t462 w0 _ ?side1 ?side2 A6.out).mono ?_); (case side1 => exact zI HI0); (case side2 => exact zB1 HB (zA (IsS77.ge HI0.out))); rintro e w15 ⟨rfl, hi, hb, hk⟩; refine ⟨_, rfl, ?_⟩; replace HK := zA (KeepBut.trans (zK HK) hk (.inl rfl)); replace HB := zA (hb); replace HI0 := zA (hi); (try clear hb); (try clear hb2); (try clear hk); (try clear hi)) | ((with_reducible refine gate_callee (f := 52) rfl ?_); refine goesL_ (some 16) rfl rfl Try.func52 (by kernel_rfl) rfl #[.pointer (some ⟨g, 0, none⟩), .int .i64 4] rfl zM ?_; (with_reducible refine (spec_l1Below.calls g s0_0 t461 t462 4 t463 t464 t465 w0 _ ?side1 ?side2 A7.out).mono ?_); (case side1 => exact zI HI0); (case side2 => exact zB1 HB (zA (IsS77.ge HI0.out))); rintro e w16 ⟨rfl, hi, hb, hk⟩; refine ⟨_, rfl, ?_⟩; replace HK := zA (KeepBut.trans (zK HK) hk (.inl rfl)); replace HB := zA (hb); replace HI0 := zA (hi); (try clear hb); (try clear hb2); (try clear hk); (try clear hi)))
        have n0_ := zA (IsS77.drew HI0.out)
        have n1_ := zA (keep_drew HK.out)
        have n2_ := zA (below_drew1 HB.out)
        clear HI0
        clear HK
        clear HB
        have HI0 := n0_
        have HK := n1_
        have HB := n2_
        clear n0_ n1_ n2_
        refine start_ (n := 9) (S := fun w' => True) (ds := []) #[false, false, false, false, false, false, false, false, false] (by kernel_rfl) rfl rfl trivial (fun hHeld => ?_); refine with_tabW spec_l1Spoil.tab6 spec_l1Spoil.bits6 (fun HT_ HW_ => ?_)
        generalize w16.drew = w17 at HI0 HK HB hHeld ⊢
        refine pure_ (i := 0) (N := some 19) (v := ?_) (a' := ?_) #[true, false, false, false, false, false, false, false, false] rfl rfl (any_of HT_.out (by kernel_rfl)) (fun _ _ _ h => h) (Or.inl ⟨by rfl, ?_⟩) ?_ ?_
        rotate_left
        ·intro w'
         go_simp
         with_reducible rfl
        rotate_left
        ·exact zU
        refine pure_ (i := 1) (N := some 20) (v := ?_) (a' := ?_) #[true, true, false, false, false, false, false, false, false] rfl rfl (any_of HT_.out (by kernel_rfl)) (fun _ _ _ h => h) (Or.inl ⟨by rfl, ?_⟩) ?_ ?_
        rotate_left
        ·intro w'
         go_simp
         with_reducible rfl
        rotate_left
        ·exact zU
        refine pure_ (i := 2) (N := some 21) (v := ?_) (a' := ?_) #[true, true, true, false, false, false, false, false, false] rfl rfl (any_of HT_.out (by kernel_rfl)) (fun _ _ _ h => h) (Or.inl ⟨by rfl, ?_⟩) ?_ ?_
        rotate_left
        ·intro w'
         go_simp
         with_reducible rfl
        rotate_left
        ·exact zU
        refine pure_ (i := 3) (N := some 22) (v := ?_) (a' := ?_) #[true, true, true, true, false, false, false, false, false] rfl rfl (any_of HT_.out (by kernel_rfl)) (fun _ _ _ h => h) (Or.inl ⟨by rfl, ?_⟩) ?_ ?_
        rotate_left
        ·intro w'
         go_simp
         with_reducible rfl
        rotate_left
        ·exact zU
        refine pure_ (i := 4) (N := some 23) (v := ?_) (a' := ?_) #[true, true, true, true, true, false, false, false, false] rfl rfl (any_of HT_.out (by kernel_rfl)) (fun _ _ _ h => h) (Or.inl ⟨by rfl, ?_⟩) ?_ ?_
        rotate_left
        ·intro w'
         go_simp
         with_reducible rfl
        rotate_left
        ·exact zU
        refine pure_ (i := 5) (N := some 24) (v := ?_) (a' := ?_) #[true, true, true, true, true, true, false, false, false] rfl rfl (any_of HT_.out (by kernel_rfl)) (fun _ _ _ h => h) (Or.inl ⟨by rfl, ?_⟩) ?_ ?_
        rotate_left
        ·intro w'
         go_simp
         with_reducible rfl
        rotate_left
        ·exact zU
        refine pure_ (i := 6) (N := some 25) (v := ?_) (a' := ?_) #[true, true, true, true, true, true, true, false, false] rfl rfl (any_of HT_.out (by kernel_rfl)) (fun _ _ _ h => h) (Or.inl ⟨by rfl, ?_⟩) ?_ ?_
        rotate_left
        ·intro w'
         go_simp
         with_reducible rfl
        rotate_left
        ·exact zU
        refine pure_ (i := 7) (N := some 26) (v := ?_) (a' := ?_) #[true, true, true, true, true, true, true, true, false] rfl rfl (any_of HT_.out (by kernel_rfl)) (fun _ _ _ h => h) (Or.inl ⟨by rfl, ?_⟩) ?_ ?_
        rotate_left
        ·intro w'
         go_simp
         with_reducible rfl
        rotate_left
        ·exact zU
        refine pure_ (i := 8) (N := some 4) (v := ?_) (a' := ?_) #[true, true, true, true, true, true, true, true, true] rfl rfl (any_of HT_.out (by kernel_rfl)) (fun _ _ _ h => h) (Or.inl ⟨by rfl, ?_⟩) ?_ ?_
        rotate_left
        ·intro w'
         go_simp
         with_reducible rfl
        rotate_left
        ·exact zU
        refine done_ (done_of HT_.out (by kernel_rfl)) ?_
        try go_wp2
        go_ret
        exact ⟨by first | rfl | (simp [errW_none, errW_some] <;> rfl) | (simp only [← hji11]; first | rfl | (simp [errW_none, errW_some] <;> rfl)) | (simp [*, errW_none, errW_some] <;> rfl), zI HI0, zB1 HB (zA (IsS77.ge HI0.out)), zK HK⟩
       ·rw [if_neg c14] at H
        exact absurd H (by simp)
      ·rw [if_neg c13] at H
       exact absurd H (by simp)
     ·rw [if_neg c12] at H
      exact absurd H (by simp)
    ·rw [if_neg c10] at H
     exact absurd H (by simp)
   ·rw [if_neg c9] at H
    exact absurd H (by simp)
  ·rw [if_neg c8] at H
   have c8b0 : (t463 == 0) = false := beq_eq_false_iff_ne.mpr c8
   have c8b1 : (t463 != 0) = true := bne_iff_ne.mpr c8
   by_cases c18 : t463 = 1
   ·rw [if_pos c18] at H
    have c18b0 : (t463 == 1) = true := beq_iff_eq.mpr c18
    have c18b1 : (t463 != 1) = false := bne_eq_false_iff_eq.mpr c18
    clear c18
    by_cases c19 : 0 ≤ t460
    ·rw [if_pos c19] at H
     have c19b0 := eq_true c19
     have c19b1 : decide (0 ≤ t460) = true := decide_eq_true c19
     clear c19
     by_cases c20 : t460 ≤ (a1.size : Int)
     ·rw [if_pos c20] at H
      have c20b0 := eq_true c20
      have c20b1 : decide (t460 ≤ (a1.size : Int)) = true := decide_eq_true c20
      clear c20
      replace H := Option.bind_eq_some_iff.mp H
      obtain ⟨⟨t466, t467, t468⟩, A210, H⟩ := H
      replace H : ((some (([(t466) % 256] : List Int) : List Int)).bind fun y469 => (if (a1.extract 0 (t460 : Int).toNat).size + (strOfNums y469).size ≤ 9223372036854775807 then (if ((a1.extract 0 (t460 : Int).toNat) ++ (strOfNums y469)).size + (a1.extract (t460 : Int).toNat a1.size).size ≤ 9223372036854775807 then (some (((a1.extract 0 (t460 : Int).toNat) ++ (strOfNums y469)) ++ (a1.extract (t460 : Int).toNat a1.size), t467, t468)) else (none)) else (none))) = some (r1, r2, r3) := H
      have A21 := zA A210
      clear A210
      obtain ⟨y469, hy469⟩ : ∃ y_ : List Int, y_ = (([(t466) % 256] : List Int)) := ⟨_, rfl⟩
      replace H : (if (a1.extract 0 (t460 : Int).toNat).size + (strOfNums y469).size ≤ 9223372036854775807 then (if ((a1.extract 0 (t460 : Int).toNat) ++ (strOfNums y469)).size + (a1.extract (t460 : Int).toNat a1.size).size ≤ 9223372036854775807 then (some (((a1.extract 0 (t460 : Int).toNat) ++ (strOfNums y469)) ++ (a1.extract (t460 : Int).toNat a1.size), t467, t468)) else (none)) else (none)) = some (r1, r2, r3) := by first | (rw [hy469]; with_reducible exact H) | (have H2_ := (Option.bind_some _ _).symm.trans H; rw [hy469]; with_reducible exact H2_) | (have H2_ := (Option.bind_some _ _).symm.trans H; with_reducible exact H2_) | with_reducible exact H | (rw [hy469]; exact H) | exact H
      have Ny469 := zA hy469
      clear hy469
      by_cases c22 : (a1.extract 0 (t460 : Int).toNat).size + (strOfNums y469).size ≤ 9223372036854775807
      ·rw [if_pos c22] at H
       have c22b0 := eq_true c22
       have c22b1 : decide ((a1.extract 0 (t460 : Int).toNat).size + (strOfNums y469).size ≤ 9223372036854775807) = true := decide_eq_true c22
       try have c22b2 : (9223372036854775807 < (a1.extract 0 (t460 : Int).toNat).size + (strOfNums y469).size) = False := eq_false (Nat.not_lt.2 c22)
       have c22b3 : (9223372036854775807 < t460.toNat + (strOfNums y469).size) = False := eq_false (by have h_ := c22; simp only [ByteArray.size_append, ByteArray.size_extract] at h_; have t_ : t460 ≤ (a1.size : Int) := of_decide_eq_true (by assumption); omega)
       have c23b0 := eq_true (of_decide_eq_true (by first | (with_reducible assumption) | assumption) : 0 ≤ t460)
       have c24b0 := eq_true (of_decide_eq_true (by first | (with_reducible assumption) | assumption) : t460 ≤ (a1.size : Int))
       by_cases c25 : ((a1.extract 0 (t460 : Int).toNat) ++ (strOfNums y469)).size + (a1.extract (t460 : Int).toNat a1.size).size ≤ 9223372036854775807
       ·rw [if_pos c25] at H
        have c25b0 := eq_true c25
        have c25b1 : decide (((a1.extract 0 (t460 : Int).toNat) ++ (strOfNums y469)).size + (a1.extract (t460 : Int).toNat a1.size).size ≤ 9223372036854775807) = true := decide_eq_true c25
        try have c25b2 : (9223372036854775807 < ((a1.extract 0 (t460 : Int).toNat) ++ (strOfNums y469)).size + (a1.extract (t460 : Int).toNat a1.size).size) = False := eq_false (Nat.not_lt.2 c25)
        have c25b3 : (9223372036854775807 < (t460.toNat + (strOfNums y469).size) + (a1.size - t460.toNat)) = False := eq_false (by have h_ := c25; simp only [ByteArray.size_append, ByteArray.size_extract] at h_; have t_ : t460 ≤ (a1.size : Int) := of_decide_eq_true (by assumption); omega)
        simp only [Option.some.injEq, Prod.mk.injEq] at H
        obtain ⟨rfl, rfl, rfl⟩ := H
        go_enter Try.func53, Try.ntmps53
        try go_wp2_with (first | ((with_reducible refine gate_callee (f := 52) rfl ?_); refine goesL_ (some 14) rfl rfl Try.func52 (by kernel_rfl) rfl #[.pointer (some ⟨g, 0, none⟩), .int .i64 (a1.size : Int)] rfl zM ?_; (with_reducible refine (spec_l1Below.calls g s0_0 s0_1 s0_2 (a1.size : Int) t460 t461 t462 w0 _ ?side1 ?side2 A6.out).mono ?_); (case side1 => exact zI HI0); (case side2 => exact zB1 HB (zA (IsS77.ge HI0.out))); rintro e w26 ⟨rfl, hi, hb, hk⟩; refine ⟨_, rfl, ?_⟩; replace HK := zA (KeepBut.trans (zK HK) hk (.inl rfl)); replace HB := zA (hb); replace HI0 := zA (hi); (try clear hb); (try clear hb2); (try clear hk); (try clear hi)) | ((with_reducible refine gate_callee (f := 52) rfl ?_); refine goesL_ (some 16) rfl rfl Try.func52 (by kernel_rfl) rfl #[.pointer (some ⟨g, 0, none⟩), .int .i64 4] rfl zM ?_; (with_reducible refine (spec_l1Below.calls g s0_0 t461 t462 4 t463 t464 t465 w0 _ ?side1 ?side2 A7.out).mono ?_); (case side1 => exact zI HI0); (case side2 => exact zB1 HB (zA (IsS77.ge HI0.out))); rintro e w27 ⟨rfl, hi, hb, hk⟩; refine ⟨_, rfl, ?_⟩; replace HK := zA (KeepBut.trans (zK HK) hk (.inl rfl)); replace HB := zA (hb); replace HI0 := zA (hi); (try clear hb); (try clear hb2); (try clear hk); (try clear hi)))
        have n0_ := zA (IsS77.drew HI0.out)
        have n1_ := zA (keep_drew HK.out)
        have n2_ := zA (below_drew1 HB.out)
        clear HI0
        clear HK
        clear HB
        have HI0 := n0_
        have HK := n1_
        have HB := n2_
        clear n0_ n1_ n2_
        refine start_ (n := 14) (S := fun w' => True) (ds := []) #[false, false, false, false, false, false, false, false, false, false, false, false, false, false] (by kernel_rfl) rfl rfl trivial (fun hHeld => ?_); refine with_tabW spec_l1Spoil.tab8 spec_l1Spoil.bits8 (fun HT_ HW_ => ?_)
        generalize w27.drew = w28 at HI0 HK HB hHeld ⊢
        refine pure_ (i := 0) (N := some 29) (v := ?_) (a' := ?_) #[true, false, false, false, false, false, false, false, false, false, false, false, false, false] rfl rfl (any_of HT_.out (by kernel_rfl)) (fun _ _ _ h => h) (Or.inl ⟨by rfl, ?_⟩) ?_ ?_
        rotate_left
        ·intro w'
         go_simp
         with_reducible rfl
        rotate_left
        ·exact zU
        refine pure_ (i := 1) (N := some 30) (v := ?_) (a' := ?_) #[true, true, false, false, false, false, false, false, false, false, false, false, false, false] rfl rfl (any_of HT_.out (by kernel_rfl)) (fun _ _ _ h => h) (Or.inl ⟨by rfl, ?_⟩) ?_ ?_
        rotate_left
        ·intro w'
         go_simp
         with_reducible rfl
        rotate_left
        ·exact zU
        refine pure_ (i := 2) (N := some 31) (v := ?_) (a' := ?_) #[true, true, true, false, false, false, false, false, false, false, false, false, false, false] rfl rfl (any_of HT_.out (by kernel_rfl)) (fun _ _ _ h => h) (Or.inl ⟨by rfl, ?_⟩) ?_ ?_
        rotate_left
        ·intro w'
         go_simp
         with_reducible rfl
        rotate_left
        ·exact zU
        refine pure_ (i := 3) (N := some 32) (v := ?_) (a' := ?_) #[true, true, true, true, false, false, false, false, false, false, false, false, false, false] rfl rfl (any_of HT_.out (by kernel_rfl)) (fun _ _ _ h => h) (Or.inl ⟨by rfl, ?_⟩) ?_ ?_
        rotate_left
        ·intro w'
         go_simp
         with_reducible rfl
        rotate_left
        ·exact zU
        refine pure_ (i := 9) (N := some 38) (v := ?_) (a' := ?_) #[true, true, true, true, false, false, false, false, false, true, false, false, false, false] rfl rfl (any_of HT_.out (by kernel_rfl)) (fun _ _ _ h => h) (Or.inl ⟨by rfl, ?_⟩) ?_ ?_
        rotate_left
        ·intro w'
         go_simp
         with_reducible rfl
        rotate_left
        ·exact zU
        refine pure_ (i := 10) (N := some 39) (v := ?_) (a' := ?_) #[true, true, true, true, false, false, false, false, false, true, true, false, false, false] rfl rfl (any_of HT_.out (by kernel_rfl)) (fun _ _ _ h => h) (Or.inl ⟨by rfl, ?_⟩) ?_ ?_
        rotate_left
        ·intro w'
         go_simp
         with_reducible rfl
        rotate_left
        ·exact zU
        refine pure_ (i := 11) (N := some 40) (v := ?_) (a' := ?_) #[true, true, true, true, false, false, false, false, false, true, true, true, false, false] rfl rfl (any_of HT_.out (by kernel_rfl)) (fun _ _ _ h => h) (Or.inl ⟨by rfl, ?_⟩) ?_ ?_
        rotate_left
        ·intro w'
         go_simp
         with_reducible rfl
        rotate_left
        ·exact zU
        refine one_ (i := 4) (N := some 33) #[true, true, true, true, true, false, false, false, false, true, true, true, false, false] rfl rfl (one_of HT_.out (by kernel_rfl)) (by decide) (fun K hK => ?_)
        refine goes_ Try.func70 (by kernel_rfl) rfl #[.pointer (some ⟨g, 0, none⟩)] (by rfl) rfl rfl zM ?_
        with_reducible refine (spec_l1Byte.calls g s0_0 t464 t465 t466 t467 t468 w0 _ ?side1 ?side2 A21.out).mono ?_
        (case side1 => exact zI HI0)
        (case side2 => exact zB1 HB (zA (IsS77.ge HI0.out)))
        rintro e w29 ⟨rfl, hi, hb, hk⟩
        refine ⟨_, rfl, ?_⟩
        have n0_ := zA (KeepBut.trans (zK HK) hk (.inl rfl))
        have n1_ := zA (hb)
        have n2_ := zA (hi)
        clear HK
        clear HB
        clear HI0
        have HK := n0_
        have HB := n1_
        have HI0 := n2_
        clear n0_ n1_ n2_
        (try clear hb)
        (try clear hb2)
        (try clear hk)
        (try clear hi)
        refine hK.out _ _ trivial (fun hHeld => ?_)
        clear hK K
        refine norm_ (a' := ?_) ?_ ?_
        rotate_left
        ·show Act.put _ (some 33) _ = _
         simp only [Act.put, List.setIfInBounds_toArray, List.set_cons_zero, List.set_cons_succ, i64_w, i32_w]
         rfl
        refine pure_ (i := 5) (N := some 34) (v := ?_) (a' := ?_) #[true, true, true, true, true, true, false, false, false, true, true, true, false, false] rfl rfl (any_of HT_.out (by kernel_rfl)) (fun _ _ _ h => h) (Or.inl ⟨by rfl, ?_⟩) ?_ ?_
        rotate_left
        ·intro w'
         go_simp
         with_reducible rfl
        rotate_left
        ·exact zU
        refine one_ (i := 6) (N := some 35) #[true, true, true, true, true, true, true, false, false, true, true, true, false, false] rfl rfl (one_of HT_.out (by kernel_rfl)) (by decide) (fun K hK => ?_)
        refine Kd.R_lit_step (Kd.int .u8) _ 5 ?hg (N := 35) ?hd (xs := ([(t466) % 256] : List Int)) (inner := [.int .u8 ((t466) % 256)]) (ok := fun _ => True) (okp := fun _ => True) ?hr ?hp (fun _ hk => hk) trivial (Below.refl _ _) (Nat.le_refl _) (by simp) ?_; (case hd => rfl); (case hg => rfl); (case hr => exact zH); (case hp => exact (Reps.one (show Kd.M (Kd.int .u8) _ _ _ ((t466) % 256) [.int .u8 ((t466) % 256)] from rfl) (Reps.none _ _)))
        intro v470 w30 ho31 hb hg_ hnew_
        clear hg_ hnew_
        (first | rw [← Ny469.out] at ho31 | (simp only [Int.reduceToNat] at ho31; rw [← Ny469.out] at ho31))
        have n0_ := zA (Kd.R_lower ho31 (keep_size (w := w) (g := g) (row := none) (zK HK)))
        have n1_ := zA (IsS77.below (zI HI0) hb)
        have n2_ := zA (KeepBut.trans (zK HK) (KeepBut.of_below hb g none) (.inl rfl))
        have n3_ := zA (below_step (zB1 HB (zA (IsS77.ge HI0.out))) hb)
        clear HI0
        clear HK
        clear HB
        have HO471 := n0_
        have HI0 := n1_
        have HK := n2_
        have HB := n3_
        clear n0_ n1_ n2_ n3_
        clear hb ho31
        refine hK.out _ _ trivial (fun hHeld => ?_)
        clear hK K
        refine norm_ (a' := ?_) ?_ ?_
        rotate_left
        ·show Act.put _ (some 35) _ = _
         simp only [Act.put, List.setIfInBounds_toArray, List.set_cons_zero, List.set_cons_succ, i64_w, i32_w]
         rfl
        refine one_ (i := 7) (N := some 36) #[true, true, true, true, true, true, true, true, false, true, true, true, false, false] rfl rfl (one_of HT_.out (by kernel_rfl)) (by decide) (fun K hK => ?_)
        have hcv32 := own_string (P := Try.prog) Try.underlying22 Try.underlying5 Try.underlying9 (Kd.own_of_R HO471.out)
        refine value_ (w1 := ?_) (v := ?_) (by rfl) rfl ?_ ?_
        rotate_left 2
        ·go_simp
         constructor
         ·rfl
         ·rfl
        clear hcv32
        refine hK.out _ _ trivial (fun hHeld => ?_)
        clear hK K
        refine norm_ (a' := ?_) ?_ ?_
        rotate_left
        ·show Act.put _ (some 36) _ = _
         simp only [Act.put, List.setIfInBounds_toArray, List.set_cons_zero, List.set_cons_succ, i64_w, i32_w]
         rfl
        refine pure_ (i := 8) (N := some 37) (v := ?_) (a' := ?_) #[true, true, true, true, true, true, true, true, true, true, true, true, false, false] rfl rfl (any_of HT_.out (by kernel_rfl)) (fun _ _ _ h => h) (Or.inl ⟨by rfl, ?_⟩) ?_ ?_
        rotate_left
        ·intro w'
         go_simp
         with_reducible rfl
        rotate_left
        ·exact zU
        refine pure_ (i := 12) (N := some 41) (v := ?_) (a' := ?_) #[true, true, true, true, true, true, true, true, true, true, true, true, true, false] rfl rfl (any_of HT_.out (by kernel_rfl)) (fun _ _ _ h => h) (Or.inl ⟨by rfl, ?_⟩) ?_ ?_
        rotate_left
        ·intro w'
         go_simp
         with_reducible rfl
        rotate_left
        ·exact zU
        refine pure_ (i := 13) (N := some 4) (v := ?_) (a' := ?_) #[true, true, true, true, true, true, true, true, true, true, true, true, true, true] rfl rfl (any_of HT_.out (by kernel_rfl)) (fun _ _ _ h => h) (Or.inl ⟨by rfl, ?_⟩) ?_ ?_
        rotate_left
        ·intro w'
         go_simp
         with_reducible rfl
        rotate_left
        ·exact zU
        refine done_ (done_of HT_.out (by kernel_rfl)) ?_
        try go_wp2
        go_ret
        exact ⟨zE, zI HI0, zB1 HB (zA (IsS77.ge HI0.out)), zK HK⟩
       ·rw [if_neg c25] at H
        exact absurd H (by simp)
      ·rw [if_neg c22] at H
       exact absurd H (by simp)
     ·rw [if_neg c20] at H
      exact absurd H (by simp)
    ·rw [if_neg c19] at H
     exact absurd H (by simp)
   ·rw [if_neg c18] at H
    have c18b0 : (t463 == 1) = false := beq_eq_false_iff_ne.mpr c18
    have c18b1 : (t463 != 1) = true := bne_iff_ne.mpr c18
    by_cases c33 : t463 = 2
    ·rw [if_pos c33] at H
     have c33b0 : (t463 == 2) = true := beq_iff_eq.mpr c33
     have c33b1 : (t463 != 2) = false := bne_eq_false_iff_eq.mpr c33
     clear c33
     by_cases c34 : 0 ≤ t460
     ·rw [if_pos c34] at H
      have c34b0 := eq_true c34
      have c34b1 : decide (0 ≤ t460) = true := decide_eq_true c34
      clear c34
      by_cases c35 : t460 ≤ (a1.size : Int)
      ·rw [if_pos c35] at H
       have c35b0 := eq_true c35
       have c35b1 : decide (t460 ≤ (a1.size : Int)) = true := decide_eq_true c35
       clear c35
       simp only [Option.some.injEq, Prod.mk.injEq] at H
       obtain ⟨rfl, rfl, rfl⟩ := H
       go_enter Try.func53, Try.ntmps53
       go_wp2_with (first | ((with_reducible refine gate_callee (f := 52) rfl ?_); refine goesL_ (some 14) rfl rfl Try.func52 (by kernel_rfl) rfl #[.pointer (some ⟨g, 0, none⟩), .int .i64 (a1.size : Int)] rfl zM ?_; (with_reducible refine (spec_l1Below.calls g s0_0 s0_1 s0_2 (a1.size : Int) t460 t461 t462 w0 _ ?side1 ?side2 A6.out).mono ?_); (case side1 => exact zI HI0); (case side2 => exact zB1 HB (zA (IsS77.ge HI0.out))); rintro e w36 ⟨rfl, hi, hb, hk⟩; refine ⟨_, rfl, ?_⟩; replace HK := zA (KeepBut.trans (zK HK) hk (.inl rfl)); replace HB := zA (hb); replace HI0 := zA (hi); (try clear hb); (try clear hb2); (try clear hk); (try clear hi)) | ((with_reducible refine gate_callee (f := 52) rfl ?_); refine goesL_ (some 16) rfl rfl Try.func52 (by kernel_rfl) rfl #[.pointer (some ⟨g, 0, none⟩), .int .i64 4] rfl zM ?_; (with_reducible refine (spec_l1Below.calls g s0_0 t461 t462 4 t463 t464 t465 w0 _ ?side1 ?side2 A7.out).mono ?_); (case side1 => exact zI HI0); (case side2 => exact zB1 HB (zA (IsS77.ge HI0.out))); rintro e w37 ⟨rfl, hi, hb, hk⟩; refine ⟨_, rfl, ?_⟩; replace HK := zA (KeepBut.trans (zK HK) hk (.inl rfl)); replace HB := zA (hb); replace HI0 := zA (hi); (try clear hb); (try clear hb2); (try clear hk); (try clear hi)))
       go_ret
       exact ⟨zE, zI HI0, zB1 HB (zA (IsS77.ge HI0.out)), zK HK⟩
      ·rw [if_neg c35] at H
       exact absurd H (by simp)
     ·rw [if_neg c34] at H
      exact absurd H (by simp)
    ·rw [if_neg c33] at H
     have c33b0 : (t463 == 2) = false := beq_eq_false_iff_ne.mpr c33
     have c33b1 : (t463 != 2) = true := bne_iff_ne.mpr c33
     by_cases c38 : 0 ≤ t460
     ·rw [if_pos c38] at H
      have c38b0 := eq_true c38
      have c38b1 : decide (0 ≤ t460) = true := decide_eq_true c38
      clear c38
      by_cases c39 : t460 ≤ (a1.size : Int)
      ·rw [if_pos c39] at H
       have c39b0 := eq_true c39
       have c39b1 : decide (t460 ≤ (a1.size : Int)) = true := decide_eq_true c39
       clear c39
       by_cases c40 : t460 < (a1.size : Int)
       ·rw [if_pos c40] at H
        have c40b0 : decide (t460 < (a1.size : Int)) = true := decide_eq_true c40
        clear c40
        replace H := Option.bind_eq_some_iff.mp H
        obtain ⟨⟨t472, t473, t474⟩, A420, H⟩ := H
        replace H : ((some (([(Go.bits .xor .i64 (wrap64 (bt a1 t460)) (wrap64 (1 + t472))) % 256] : List Int) : List Int)).bind fun y475 => (if (a1.extract 0 (t460 : Int).toNat).size + (strOfNums y475).size ≤ 9223372036854775807 then (if 0 ≤ (wrap64 (t460 + 1)) then (if (wrap64 (t460 + 1)) ≤ (a1.size : Int) then (if ((a1.extract 0 (t460 : Int).toNat) ++ (strOfNums y475)).size + (a1.extract ((wrap64 (t460 + 1)) : Int).toNat a1.size).size ≤ 9223372036854775807 then (some (((a1.extract 0 (t460 : Int).toNat) ++ (strOfNums y475)) ++ (a1.extract ((wrap64 (t460 + 1)) : Int).toNat a1.size), t473, t474)) else (none)) else (none)) else (none)) else (none))) = some (r1, r2, r3) := H
        have A42 := zA A420
        clear A420
        obtain ⟨y475, hy475⟩ : ∃ y_ : List Int, y_ = (([(Go.bits .xor .i64 (wrap64 (bt a1 t460)) (wrap64 (1 + t472))) % 256] : List Int)) := ⟨_, rfl⟩
        replace H : (if (a1.extract 0 (t460 : Int).toNat).size + (strOfNums y475).size ≤ 9223372036854775807 then (if 0 ≤ (wrap64 (t460 + 1)) then (if (wrap64 (t460 + 1)) ≤ (a1.size : Int) then (if ((a1.extract 0 (t460 : Int).toNat) ++ (strOfNums y475)).size + (a1.extract ((wrap64 (t460 + 1)) : Int).toNat a1.size).size ≤ 9223372036854775807 then (some (((a1.extract 0 (t460 : Int).toNat) ++ (strOfNums y475)) ++ (a1.extract ((wrap64 (t460 + 1)) : Int).toNat a1.size), t473, t474)) else (none)) else (none)) else (none)) else (none)) = some (r1, r2, r3) := by first | (rw [hy475]; with_reducible exact H) | (have H2_ := (Option.bind_some _ _).symm.trans H; rw [hy475]; with_reducible exact H2_) | (have H2_ := (Option.bind_some _ _).symm.trans H; with_reducible exact H2_) | with_reducible exact H | (rw [hy475]; exact H) | exact H
        have Ny475 := zA hy475
        clear hy475
        by_cases c43 : (a1.extract 0 (t460 : Int).toNat).size + (strOfNums y475).size ≤ 9223372036854775807
        ·rw [if_pos c43] at H
         have c43b0 := eq_true c43
         have c43b1 : decide ((a1.extract 0 (t460 : Int).toNat).size + (strOfNums y475).size ≤ 9223372036854775807) = true := decide_eq_true c43
         try have c43b2 : (9223372036854775807 < (a1.extract 0 (t460 : Int).toNat).size + (strOfNums y475).size) = False := eq_false (Nat.not_lt.2 c43)
         have c43b3 : (9223372036854775807 < t460.toNat + (strOfNums y475).size) = False := eq_false (by have h_ := c43; simp only [ByteArray.size_append, ByteArray.size_extract] at h_; have t_ : t460 ≤ (a1.size : Int) := of_decide_eq_true (by assumption); omega)
         obtain ⟨ji44, hji44⟩ : ∃ j_ : Int, (wrap64 (t460 + 1)) = j_ := ⟨_, rfl⟩
         replace H : (if 0 ≤ (ji44) then (if (ji44) ≤ (a1.size : Int) then (if ((a1.extract 0 (t460 : Int).toNat) ++ (strOfNums y475)).size + (a1.extract ((ji44) : Int).toNat a1.size).size ≤ 9223372036854775807 then (some (((a1.extract 0 (t460 : Int).toNat) ++ (strOfNums y475)) ++ (a1.extract ((ji44) : Int).toNat a1.size), t473, t474)) else (none)) else (none)) else (none)) = some (r1, r2, r3) := by first | (rw [hji44] at H; exact H) | (simp only [hji44] at H ⊢; exact H)
         (try rw [hji44] at A6)
         (try rw [hji44] at A7)
         (try rw [hji44] at A42)
         have hji44w : (IntKind.i64.wrap (t460 + 1)) = ji44 := (i64_w _).trans hji44
         by_cases c45 : 0 ≤ (ji44)
         ·rw [if_pos c45] at H
          have c45b0 := eq_true c45
          have c45b1 : decide (0 ≤ (ji44)) = true := decide_eq_true c45
          clear c45
          by_cases c46 : (ji44) ≤ (a1.size : Int)
          ·rw [if_pos c46] at H
           have c46b0 := eq_true c46
           have c46b1 : decide ((ji44) ≤ (a1.size : Int)) = true := decide_eq_true c46
           clear c46
           by_cases c47 : ((a1.extract 0 (t460 : Int).toNat) ++ (strOfNums y475)).size + (a1.extract ((ji44) : Int).toNat a1.size).size ≤ 9223372036854775807
           ·rw [if_pos c47] at H
            have c47b0 := eq_true c47
            have c47b1 : decide (((a1.extract 0 (t460 : Int).toNat) ++ (strOfNums y475)).size + (a1.extract ((ji44) : Int).toNat a1.size).size ≤ 9223372036854775807) = true := decide_eq_true c47
            try have c47b2 : (9223372036854775807 < ((a1.extract 0 (t460 : Int).toNat) ++ (strOfNums y475)).size + (a1.extract ((ji44) : Int).toNat a1.size).size) = False := eq_false (Nat.not_lt.2 c47)
            have c47b3 : (9223372036854775807 < (t460.toNat + (strOfNums y475).size) + (a1.size - ji44.toNat)) = False := eq_false (by have h_ := c47; simp only [ByteArray.size_append, ByteArray.size_extract] at h_; have t_ : t460 ≤ (a1.size : Int) := of_decide_eq_true (by assumption); omega)
            simp only [Option.some.injEq, Prod.mk.injEq] at H
            obtain ⟨rfl, rfl, rfl⟩ := H
            go_enter Try.func53, Try.ntmps53
            try go_wp2_with (first | ((with_reducible refine gate_callee (f := 52) rfl ?_); refine goesL_ (some 14) rfl rfl Try.func52 (by kernel_rfl) rfl #[.pointer (some ⟨g, 0, none⟩), .int .i64 (a1.size : Int)] rfl zM ?_; (with_reducible refine (spec_l1Below.calls g s0_0 s0_1 s0_2 (a1.size : Int) t460 t461 t462 w0 _ ?side1 ?side2 A6.out).mono ?_); (case side1 => exact zI HI0); (case side2 => exact zB1 HB (zA (IsS77.ge HI0.out))); rintro e w48 ⟨rfl, hi, hb, hk⟩; refine ⟨_, rfl, ?_⟩; replace HK := zA (KeepBut.trans (zK HK) hk (.inl rfl)); replace HB := zA (hb); replace HI0 := zA (hi); (try clear hb); (try clear hb2); (try clear hk); (try clear hi)) | ((with_reducible refine gate_callee (f := 52) rfl ?_); refine goesL_ (some 16) rfl rfl Try.func52 (by kernel_rfl) rfl #[.pointer (some ⟨g, 0, none⟩), .int .i64 4] rfl zM ?_; (with_reducible refine (spec_l1Below.calls g s0_0 t461 t462 4 t463 t464 t465 w0 _ ?side1 ?side2 A7.out).mono ?_); (case side1 => exact zI HI0); (case side2 => exact zB1 HB (zA (IsS77.ge HI0.out))); rintro e w49 ⟨rfl, hi, hb, hk⟩; refine ⟨_, rfl, ?_⟩; replace HK := zA (KeepBut.trans (zK HK) hk (.inl rfl)); replace HB := zA (hb); replace HI0 := zA (hi); (try clear hb); (try clear hb2); (try clear hk); (try clear hi)))
            have n0_ := zA (IsS77.drew HI0.out)
            have n1_ := zA (keep_drew HK.out)
            have n2_ := zA (below_drew1 HB.out)
            clear HI0
            clear HK
            clear HB
            have HI0 := n0_
            have HK := n1_
            have HB := n2_
            clear n0_ n1_ n2_
            have p41 : 0 ≤ (t460 : Int) := of_decide_eq_true (by first | (with_reducible assumption) | assumption)
            have q41 : t460 < (a1.size : Int) := of_decide_eq_true (by first | (with_reducible assumption) | assumption)
            have hx41 := bt_at a1 t460
            replace p41 := eq_true p41
            replace q41 := eq_true q41
            refine start_ (n := 21) (S := fun w' => True) (ds := []) #[false, false, false, false, false, false, false, false, false, false, false, false, false, false, false, false, false, false, false, false, false] (by kernel_rfl) rfl rfl trivial (fun hHeld => ?_); refine with_tabW spec_l1Spoil.tab11 spec_l1Spoil.bits11 (fun HT_ HW_ => ?_)
            generalize w49.drew = w50 at HI0 HK HB hHeld ⊢
            refine pure_ (i := 0) (N := some 47) (v := ?_) (a' := ?_) #[true, false, false, false, false, false, false, false, false, false, false, false, false, false, false, false, false, false, false, false, false] rfl rfl (any_of HT_.out (by kernel_rfl)) (fun _ _ _ h => h) (Or.inl ⟨by rfl, ?_⟩) ?_ ?_
            rotate_left
            ·intro w'
             go_simp
             with_reducible rfl
            rotate_left
            ·exact zU
            refine pure_ (i := 1) (N := some 48) (v := ?_) (a' := ?_) #[true, true, false, false, false, false, false, false, false, false, false, false, false, false, false, false, false, false, false, false, false] rfl rfl (any_of HT_.out (by kernel_rfl)) (fun _ _ _ h => h) (Or.inl ⟨by rfl, ?_⟩) ?_ ?_
            rotate_left
            ·intro w'
             go_simp
             with_reducible rfl
            rotate_left
            ·exact zU
            refine pure_ (i := 2) (N := some 49) (v := ?_) (a' := ?_) #[true, true, true, false, false, false, false, false, false, false, false, false, false, false, false, false, false, false, false, false, false] rfl rfl (any_of HT_.out (by kernel_rfl)) (fun _ _ _ h => h) (Or.inl ⟨by rfl, ?_⟩) ?_ ?_
            rotate_left
            ·intro w'
             go_simp
             with_reducible rfl
            rotate_left
            ·exact zU
            refine pure_ (i := 3) (N := some 50) (v := ?_) (a' := ?_) #[true, true, true, true, false, false, false, false, false, false, false, false, false, false, false, false, false, false, false, false, false] rfl rfl (any_of HT_.out (by kernel_rfl)) (fun _ _ _ h => h) (Or.inl ⟨by rfl, ?_⟩) ?_ ?_
            rotate_left
            ·intro w'
             go_simp
             with_reducible rfl
            rotate_left
            ·exact zU
            refine pure_ (i := 4) (N := some 51) (v := ?_) (a' := ?_) #[true, true, true, true, true, false, false, false, false, false, false, false, false, false, false, false, false, false, false, false, false] rfl rfl (any_of HT_.out (by kernel_rfl)) (fun _ _ _ h => h) (Or.inl ⟨by rfl, ?_⟩) ?_ ?_
            rotate_left
            ·intro w'
             go_simp
             with_reducible rfl
            rotate_left
            ·exact zU
            refine pure_ (i := 7) (N := some 54) (v := ?_) (a' := ?_) #[true, true, true, true, true, false, false, true, false, false, false, false, false, false, false, false, false, false, false, false, false] rfl rfl (any_of HT_.out (by kernel_rfl)) (fun _ _ _ h => h) (Or.inl ⟨by rfl, ?_⟩) ?_ ?_
            rotate_left
            ·intro w'
             go_simp
             with_reducible rfl
            rotate_left
            ·exact zU
            refine pure_ (i := 15) (N := some 62) (v := ?_) (a' := ?_) #[true, true, true, true, true, false, false, true, false, false, false, false, false, false, false, true, false, false, false, false, false] rfl rfl (any_of HT_.out (by kernel_rfl)) (fun _ _ _ h => h) (Or.inl ⟨by rfl, ?_⟩) ?_ ?_
            rotate_left
            ·intro w'
             go_simp
             with_reducible rfl
            rotate_left
            ·exact zU
            refine pure_ (i := 16) (N := some 63) (v := ?_) (a' := ?_) #[true, true, true, true, true, false, false, true, false, false, false, false, false, false, false, true, true, false, false, false, false] rfl rfl (any_of HT_.out (by kernel_rfl)) (fun _ _ _ h => h) (Or.inl ⟨by rfl, ?_⟩) ?_ ?_
            rotate_left
            ·intro w'
             go_simp
             with_reducible rfl
            rotate_left
            ·exact zU
            refine pure_ (i := 17) (N := some 64) (v := ?_) (a' := ?_) #[true, true, true, true, true, false, false, true, false, false, false, false, false, false, false, true, true, true, false, false, false] rfl rfl (any_of HT_.out (by kernel_rfl)) (fun _ _ _ h => h) (Or.inl ⟨by rfl, ?_⟩) ?_ ?_
            rotate_left
            ·intro w'
             go_simp
             with_reducible rfl
            rotate_left
            ·exact zU
            refine pure_ (i := 18) (N := some 65) (v := ?_) (a' := ?_) #[true, true, true, true, true, false, false, true, false, false, false, false, false, false, false, true, true, true, true, false, false] rfl rfl (any_of HT_.out (by kernel_rfl)) (fun _ _ _ h => h) (Or.inl ⟨by rfl, ?_⟩) ?_ ?_
            rotate_left
            ·intro w'
             go_simp
             with_reducible rfl
            rotate_left
            ·exact zU
            refine take_ (i := 5) (N := some 52) (v := ?_) (a' := ?_) #[true, true, true, true, true, true, false, true, false, false, false, false, false, false, false, true, true, true, true, false, false] rfl rfl (take_ofW HT_.out HW_.out (by kernel_rfl)) (fun _ _ _ h => h) (Or.inl ⟨by rfl, ?_⟩) hHeld ?_ ?_
            rotate_left
            ·intro w' _
             go_simp
             with_reducible rfl
            rotate_left
            ·exact zU
            refine pure_ (i := 6) (N := some 53) (v := ?_) (a' := ?_) #[true, true, true, true, true, true, true, true, false, false, false, false, false, false, false, true, true, true, true, false, false] rfl rfl (any_of HT_.out (by kernel_rfl)) (fun _ _ _ h => h) (Or.inl ⟨by rfl, ?_⟩) ?_ ?_
            rotate_left
            ·intro w'
             go_simp
             with_reducible rfl
            rotate_left
            ·exact zU
            refine one_ (i := 8) (N := some 55) #[true, true, true, true, true, true, true, true, true, false, false, false, false, false, false, true, true, true, true, false, false] rfl rfl (one_of HT_.out (by kernel_rfl)) (by decide) (fun K hK => ?_)
            refine goes_ Try.func52 (by kernel_rfl) rfl #[.pointer (some ⟨g, 0, none⟩), .int .i64 255] (by rfl) rfl rfl zM ?_
            with_reducible refine (spec_l1Below.calls g s0_0 t464 t465 255 t472 t473 t474 w0 _ ?side1 ?side2 A42.out).mono ?_
            (case side1 => exact zI HI0)
            (case side2 => exact zB1 HB (zA (IsS77.ge HI0.out)))
            rintro e w51 ⟨rfl, hi, hb, hk⟩
            refine ⟨_, rfl, ?_⟩
            have n0_ := zA (KeepBut.trans (zK HK) hk (.inl rfl))
            have n1_ := zA (hb)
            have n2_ := zA (hi)
            clear HK
            clear HB
            clear HI0
            have HK := n0_
            have HB := n1_
            have HI0 := n2_
            clear n0_ n1_ n2_
            (try clear hb)
            (try clear hb2)
            (try clear hk)
            (try clear hi)
            refine hK.out _ _ trivial (fun hHeld => ?_)
            clear hK K
            refine norm_ (a' := ?_) ?_ ?_
            rotate_left
            ·show Act.put _ (some 55) _ = _
             simp only [Act.put, List.setIfInBounds_toArray, List.set_cons_zero, List.set_cons_succ, i64_w, i32_w]
             rfl
            refine pure_ (i := 9) (N := some 56) (v := ?_) (a' := ?_) #[true, true, true, true, true, true, true, true, true, true, false, false, false, false, false, true, true, true, true, false, false] rfl rfl (any_of HT_.out (by kernel_rfl)) (fun _ _ _ h => h) (Or.inl ⟨by rfl, ?_⟩) ?_ ?_
            rotate_left
            ·intro w'
             go_simp
             with_reducible rfl
            rotate_left
            ·exact zU
            refine pure_ (i := 10) (N := some 57) (v := ?_) (a' := ?_) #[true, true, true, true, true, true, true, true, true, true, true, false, false, false, false, true, true, true, true, false, false] rfl rfl (any_of HT_.out (by kernel_rfl)) (fun _ _ _ h => h) (Or.inl ⟨by rfl, ?_⟩) ?_ ?_
            rotate_left
            ·intro w'
             go_simp
             with_reducible rfl
            rotate_left
            ·exact zU
            refine pure_ (i := 11) (N := some 58) (v := ?_) (a' := ?_) #[true, true, true, true, true, true, true, true, true, true, true, true, false, false, false, true, true, true, true, false, false] rfl rfl (any_of HT_.out (by kernel_rfl)) (fun _ _ _ h => h) (Or.inl ⟨by rfl, ?_⟩) ?_ ?_
            rotate_left
            ·intro w'
             go_simp
             with_reducible rfl
            rotate_left
            ·exact zU
            refine one_ (i := 12) (N := some 59) #[true, true, true, true, true, true, true, true, true, true, true, true, true, false, false, true, true, true, true, false, false] rfl rfl (one_of HT_.out (by kernel_rfl)) (by decide) (fun K hK => ?_)
            refine Kd.R_lit_step (Kd.int .u8) _ 5 ?hg (N := 59) ?hd (xs := ([(Go.bits .xor .i64 (wrap64 (bt a1 t460)) (wrap64 (1 + t472))) % 256] : List Int)) (inner := [.int .u8 ((Go.bits .xor .i64 (wrap64 (bt a1 t460)) (wrap64 (1 + t472))) % 256)]) (ok := fun _ => True) (okp := fun _ => True) ?hr ?hp (fun _ hk => hk) trivial (Below.refl _ _) (Nat.le_refl _) (by simp) ?_; (case hd => rfl); (case hg => rfl); (case hr => exact zH); (case hp => exact (Reps.one (show Kd.M (Kd.int .u8) _ _ _ ((Go.bits .xor .i64 (wrap64 (bt a1 t460)) (wrap64 (1 + t472))) % 256) [.int .u8 ((Go.bits .xor .i64 (wrap64 (bt a1 t460)) (wrap64 (1 + t472))) % 256)] from rfl) (Reps.none _ _)))
            intro v476 w52 ho53 hb hg_ hnew_
            clear hg_ hnew_
            (first | rw [← Ny475.out] at ho53 | (simp only [Int.reduceToNat] at ho53; rw [← Ny475.out] at ho53))
            have n0_ := zA (Kd.R_lower ho53 (keep_size (w := w) (g := g) (row := none) (zK HK)))
            have n1_ := zA (IsS77.below (zI HI0) hb)
            have n2_ := zA (KeepBut.trans (zK HK) (KeepBut.of_below hb g none) (.inl rfl))
            have n3_ := zA (below_step (zB1 HB (zA (IsS77.ge HI0.out))) hb)
            clear HI0
            clear HK
            clear HB
            have HO477 := n0_
            have HI0 := n1_
            have HK := n2_
            have HB := n3_
            clear n0_ n1_ n2_ n3_
            clear hb ho53
            refine hK.out _ _ trivial (fun hHeld => ?_)
            clear hK K
            refine norm_ (a' := ?_) ?_ ?_
            rotate_left
            ·show Act.put _ (some 59) _ = _
             simp only [Act.put, List.setIfInBounds_toArray, List.set_cons_zero, List.set_cons_succ, i64_w, i32_w]
             rfl
            refine one_ (i := 13) (N := some 60) #[true, true, true, true, true, true, true, true, true, true, true, true, true, true, false, true, true, true, true, false, false] rfl rfl (one_of HT_.out (by kernel_rfl)) (by decide) (fun K hK => ?_)
            have hcv54 := own_string (P := Try.prog) Try.underlying22 Try.underlying5 Try.underlying9 (Kd.own_of_R HO477.out)
            refine value_ (w1 := ?_) (v := ?_) (by rfl) rfl ?_ ?_
            rotate_left 2
            ·go_simp
             constructor
             ·rfl
             ·rfl
            clear hcv54
            refine hK.out _ _ trivial (fun hHeld => ?_)
            clear hK K
            refine norm_ (a' := ?_) ?_ ?_
            rotate_left
            ·show Act.put _ (some 60) _ = _
             simp only [Act.put, List.setIfInBounds_toArray, List.set_cons_zero, List.set_cons_succ, i64_w, i32_w]
             rfl
            refine pure_ (i := 14) (N := some 61) (v := ?_) (a' := ?_) #[true, true, true, true, true, true, true, true, true, true, true, true, true, true, true, true, true, true, true, false, false] rfl rfl (any_of HT_.out (by kernel_rfl)) (fun _ _ _ h => h) (Or.inl ⟨by rfl, ?_⟩) ?_ ?_
            rotate_left
            ·intro w'
             go_simp
             with_reducible rfl
            rotate_left
            ·exact zU
            refine pure_ (i := 19) (N := some 66) (v := ?_) (a' := ?_) #[true, true, true, true, true, true, true, true, true, true, true, true, true, true, true, true, true, true, true, true, false] rfl rfl (any_of HT_.out (by kernel_rfl)) (fun _ _ _ h => h) (Or.inl ⟨by rfl, ?_⟩) ?_ ?_
            rotate_left
            ·intro w'
             go_simp
             with_reducible rfl
            rotate_left
            ·exact zU
            refine pure_ (i := 20) (N := some 4) (v := ?_) (a' := ?_) #[true, true, true, true, true, true, true, true, true, true, true, true, true, true, true, true, true, true, true, true, true] rfl rfl (any_of HT_.out (by kernel_rfl)) (fun _ _ _ h => h) (Or.inl ⟨by rfl, ?_⟩) ?_ ?_
            rotate_left
            ·intro w'
             go_simp
             with_reducible rfl
            rotate_left
            ·exact zU
            refine done_ (done_of HT_.out (by kernel_rfl)) ?_
            try go_wp2
            go_ret
            exact ⟨by first | rfl | (simp [errW_none, errW_some] <;> rfl) | (simp only [← hji44]; first | rfl | (simp [errW_none, errW_some] <;> rfl)) | (simp [*, errW_none, errW_some] <;> rfl), zI HI0, zB1 HB (zA (IsS77.ge HI0.out)), zK HK⟩
           ·rw [if_neg c47] at H
            exact absurd H (by simp)
          ·rw [if_neg c46] at H
           exact absurd H (by simp)
         ·rw [if_neg c45] at H
          exact absurd H (by simp)
        ·rw [if_neg c43] at H
         exact absurd H (by simp)
       ·rw [if_neg c40] at H
        exact absurd H (by simp)
      ·rw [if_neg c39] at H
       exact absurd H (by simp)
     ·rw [if_neg c38] at H
      exact absurd H (by simp)

/-! ### spec_l1Pick: function 54 -/
def spec_l1Pick.f (s0_0 : List Int) (s0_1 : Int) (s0_2 : Int) (l1 : List ByteArray) : Option (ByteArray × Int × Int) := (spec_l1Below.f s0_0 s0_1 s0_2 (l1.length : Int)).bind fun bt478 => (if 0 ≤ bt478.1 then (if bt478.1 < (l1.length : Int) then (some (rdOf ByteArray.empty l1 bt478.1, bt478.2.1, bt478.2.2)) else (none)) else (none))
set_option maxHeartbeats 8000000 in
set_option maxRecDepth 100000 in
theorem spec_l1Pick.calls (g : Nat) (s0_0 : List Int) (s0_1 : Int) (s0_2 : Int) (A1 : Option Addr) (c1 : Nat) (l1 : List ByteArray) (r1 : ByteArray) (r2 : Int) (r3 : Int) (w0 w : World) (hI : IsS77 w0 w g s0_0 s0_1 s0_2) (hB : Below w0.heap.size w0 w) (hr1 : Kd.C Kd.string w A1 l1.length l1) (hc1 : l1.length ≤ c1) (hf1 : ∀ ad, A1 = some ad → 0 < l1.length → ad.block ≠ g) (h : spec_l1Pick.f s0_0 s0_1 s0_2 l1 = some (r1, r2, r3)) :
  Calls Try.prog 54 #[.pointer (some ⟨g, 0, none⟩), .slice A1 l1.length c1] w fun e w' => e = .returned (.string r1) ∧ IsS77 w0 w' g s0_0 r2 r3 ∧ Below w0.heap.size w0 w' ∧ KeepBut w w' g none := by
 have HR1 := zA hr1
 have HC1 := zA hc1
 clear hr1 hc1
 have HI0 := zA hI
 have HK := zA (KeepBut.refl w g none)
 have HL := zA hB.size
 clear hI
 have HW0 := zA hB.size
 have HB := zA hB
 clear hB
 have H := h
 unfold spec_l1Pick.f at H
 clear h
 replace H := Option.bind_eq_some_iff.mp H
 obtain ⟨⟨t478, t479, t480⟩, A30, H⟩ := H
 replace H : (if 0 ≤ t478 then (if t478 < (l1.length : Int) then (some (rdOf ByteArray.empty l1 t478, t479, t480)) else (none)) else (none)) = some (r1, r2, r3) := H
 have A3 := zA A30
 clear A30
 by_cases c4 : 0 ≤ t478
 ·rw [if_pos c4] at H
  have c4b0 : decide (0 ≤ t478) = true := decide_eq_true c4
  clear c4
  by_cases c5 : t478 < (l1.length : Int)
  ·rw [if_pos c5] at H
   have c5b0 : decide (t478 < (l1.length : Int)) = true := decide_eq_true c5
   clear c5
   simp only [Option.some.injEq, Prod.mk.injEq] at H
   obtain ⟨rfl, rfl, rfl⟩ := H
   go_enter Try.func54, Try.ntmps54
   go_wp2_with (first | ((with_reducible refine gate_callee (f := 52) rfl ?_); refine goesL_ (some 9) rfl rfl Try.func52 (by kernel_rfl) rfl #[.pointer (some ⟨g, 0, none⟩), .int .i64 (l1.length : Int)] rfl zM ?_; (with_reducible refine (spec_l1Below.calls g s0_0 s0_1 s0_2 (l1.length : Int) t478 t479 t480 w0 _ ?side1 ?side2 A3.out).mono ?_); (case side1 => exact zI HI0); (case side2 => exact zB1 HB (zA (IsS77.ge HI0.out))); rintro e w6 ⟨rfl, hi, hb, hk⟩; refine ⟨_, rfl, ?_⟩; replace HK := zA (KeepBut.trans (zK HK) hk (.inl rfl)); replace HB := zA (hb); replace HI0 := zA (hi); (try clear hb); (try clear hb2); (try clear hk); (try clear hi); have p481 : 0 ≤ (t478 : Int) := of_decide_eq_true (by first | (with_reducible assumption) | assumption); have q481 : t478 < (l1.length : Int) := of_decide_eq_true (by first | (with_reducible assumption) | assumption); obtain ⟨ad481, e481, hx481_0⟩ := Kd.at_string HR1.out t478 p481 q481; cases e481; replace hx481_0 := keep_cell HK.out hx481_0 (by first | (rw [add_block]; exact hf1 _ rfl (by omega)) | exact hf1 _ rfl (by omega) | exact hf1 ad481 rfl (by omega)); replace p481 := eq_true p481; replace q481 := eq_true q481))
   go_ret
   exact ⟨zE, zI HI0, zB1 HB (zA (IsS77.ge HI0.out)), zK HK⟩
  ·rw [if_neg c5] at H
   exact absurd H (by simp)
 ·rw [if_neg c4] at H
  exact absurd H (by simp)

/-! ### spec_DrawTermHolds: function 25 -/
def spec_DrawTermHolds.f (k : Nat) (l0 : List Int) : Option (Int × Int × Int) := (spec_l1New.f k l0).bind fun bt543 => ((spec_l6Draw.f bt543.1 bt543.2.1 bt543.2.2 4).bind fun bt547 => ((spec_l1Below.f bt543.1 bt547.2.2.1 bt547.2.2.2 34).bind fun bt552 => (some (bt547.1, bt547.2.1, wrap64 (bt552.1 - 1)))))
theorem spec_DrawTermHolds.mono : ∀ a0 k, LeO (spec_DrawTermHolds.f k a0) (spec_DrawTermHolds.f (k + 1) a0) := by
 intro a0 k
 unfold spec_DrawTermHolds.f
 repeat' first
   | (with_reducible exact spec_l1New.mono _ _)
   | (with_reducible exact LeO.refl _)
   | (with_reducible exact LeO.none _)
   | (with_reducible refine LeO.ite ?_ ?_)
   | (with_reducible refine LeO.bind ?_ (fun _ => ?_))
   | exact spec_l1New.mono _ _
   | exact LeO.none _
   | refine LeO.ite ?_ ?_
   | refine LeO.bind ?_ (fun _ => ?_)
set_option maxHeartbeats 8000000 in
set_option maxRecDepth 100000 in
theorem spec_DrawTermHolds.calls (k : Nat) (A0 : Option Addr) (c0 : Nat) (l0 : List Int) (r1 : Int) (r2 : Int) (r3 : Int) (w : World) (hr0 : Kd.C (Kd.int .u8) w A0 l0.length l0) (hc0 : l0.length ≤ c0) (h : spec_DrawTermHolds.f k l0 = some (r1, r2, r3)) :
  Calls Try.prog 25 #[.slice A0 l0.length c0] w fun e w' => e = .returned (.tuple #[.agg #[.int .i64 r1, .int .i64 r2], .int .i64 r3]) ∧ Below w.heap.size w w' := by
 have hu33 := Try.underlying33
 have HR0 := zA hr0
 have HC0 := zA hc0
 clear hr0 hc0
 have HB := zA (Below.refl w.heap.size w)
 have H := h
 unfold spec_DrawTermHolds.f at H
 clear h
 replace H := Option.bind_eq_some_iff.mp H
 obtain ⟨⟨t543, t544, t545⟩, A20, H⟩ := H
 have A2 := zA A20
 clear A20
 replace H := Option.bind_eq_some_iff.mp H
 obtain ⟨⟨t547, t548, t549, t550⟩, A30, H⟩ := H
 have A3 := zA A30
 clear A30
 replace H := Option.bind_eq_some_iff.mp H
 obtain ⟨⟨t552, t553, t554⟩, A40, H⟩ := H
 replace H : (some (t547, t548, wrap64 (t552 - 1))) = some (r1, r2, r3) := H
 have A4 := zA A40
 clear A40
 simp only [Option.some.injEq, Prod.mk.injEq] at H
 obtain ⟨rfl, rfl, rfl⟩ := H
 go_enter Try.func25, Try.ntmps25
 try go_wp2_with (first | ((with_reducible refine gate_dst (N := 2) rfl ?_); refine box_event ?hg (N := 2) ?hd (cs := #[.int .i64 0, .int .i64 0]) (t := 33) ?hr ?_; (case hd => rfl); (case hg => rfl); (case hr => exact zH); intro gb542 hg w5 hbox hb; have BK542 := zA (hbox); have GW542 := zg HB hg; have GE542 := zg HB hg; replace HB := zA (below_step (zB HB) hb); clear hb hbox hg) | ((with_reducible refine gate_callee (f := 33) rfl ?_); refine goesL_ (some 7) rfl rfl Try.func33 (by kernel_rfl) rfl #[.slice A0 l0.length c0] rfl zM ?_; (with_reducible refine (spec_l1New.calls k _ _ l0 t543 t544 t545 w _ ?side1 ?side2 ?side3 A2.out).mono ?_); (case side1 => exact zB1 HB GE542); (case side2 => exact HR0.out); (case side3 => exact HC0.out); rintro e w6 ⟨g546, rfl, hi, hb, hb2⟩; refine ⟨_, rfl, ?_⟩; have HI546 := zA (hi); have NB546_542 := zA (IsS77.ne_blk hi (blk_below (g := gb542) (o := .cells #[.int .i64 0, .int .i64 0] 33 (0, 0)) (zD BK542) hb2) (by decide)); have NB542_546 := zA (Ne.symm (IsS77.ne_blk hi (blk_below (g := gb542) (o := .cells #[.int .i64 0, .int .i64 0] 33 (0, 0)) (zD BK542) hb2) (by decide))); replace BK542 := zb BK542 hb2; replace HB := zA (hb); (try clear hb); (try clear hb2); (try clear hk); (try clear hi)) | ((with_reducible refine gate_callee (f := 56) rfl ?_); refine goesL_ (some 9) rfl rfl Try.func56 (by kernel_rfl) rfl #[.pointer (some ⟨g546, 0, none⟩), .int .i64 4] rfl zM ?_; (with_reducible refine (spec_l6Draw.calls g546 t543 t544 t545 4 t547 t548 t549 t550 w _ ?side1 ?side2 A3.out).mono ?_); (case side1 => exact zI1 HI546 NB546_542); (case side2 => exact zB2 HB (zA (IsS77.ge HI546.out)) GE542); rintro e w7 ⟨rfl, hi, hb, hk⟩; refine ⟨_, rfl, ?_⟩; replace BK542 := zA (KeepBut.blk hk (g' := gb542) (o := .cells #[.int .i64 0, .int .i64 0] 33 (0, 0)) (zD BK542) NB542_546.out (by simp)); replace HB := zA (hb); replace HI546 := zA (hi); (try clear hb); (try clear hb2); (try clear hk); (try clear hi)) | ((with_reducible refine gate_dst (N := 5) rfl ?_); refine box_event ?hg (N := 5) ?hd (cs := #[.int .i64 0, .int .i64 0]) (t := 33) ?hr ?_; (case hd => rfl); (case hg => rfl); (case hr => exact zH); intro gb551 hg w8 hbox hb; have BK551 := zA (hbox); have GW551 := zA ((by rw [hg]; exact (below_size (zB2 HB (zA (IsS77.ge HI546.out)) GE542)) : w.heap.size ≤ gb551)); have GE551 := zA ((by rw [hg]; exact (below_size (zB2 HB (zA (IsS77.ge HI546.out)) GE542)) : w.heap.size ≤ gb551)); have NB542_551 := zn BK542 hg; have NB551_542 := zo BK542 hg; have NB546_551 := zA ((by rw [hg]; exact Nat.ne_of_lt (IsS77.lt (show IsS77 w _ g546 t543 t549 t550 from zI1 HI546 NB546_542)) : g546 ≠ gb551)); have NB551_546 := zA ((by rw [hg]; exact Nat.ne_of_gt (IsS77.lt (show IsS77 w _ g546 t543 t549 t550 from zI1 HI546 NB546_542)) : gb551 ≠ g546)); replace BK542 := zb BK542 hb; replace HB := zA (below_step (zB2 HB (zA (IsS77.ge HI546.out)) GE542) hb); replace HI546 := zA (IsS77.below (zI1 HI546 NB546_542) hb); clear hb hbox hg; have hnb9 := NB551_542.out; have hnc9 := NB542_551.out; have hnb10 := NB551_546.out; have hnc10 := NB546_551.out; have hcz11_0 := zc0 BK551; have hcz11_1 := zc1 BK551; have hfz11_0 := blk_frozen BK551.out 0; have hfz11_1 := blk_frozen BK551.out 1))
 have n0_ : Aside0 (((w8.setCell ⟨gb551, 0, none⟩ (.int .i64 t547)).setCell ⟨gb551, 1, none⟩ (.int .i64 t548)).heap[gb542]? = some (.cells #[.int .i64 0, .int .i64 0] 33 (0, 0))) := ⟨zF BK542 NB542_551⟩
 have n1_ : Aside0 (((w8.setCell ⟨gb551, 0, none⟩ (.int .i64 t547)).setCell ⟨gb551, 1, none⟩ (.int .i64 t548)).heap[gb551]? = some (.cells #[.int .i64 t547, .int .i64 t548] 33 (0, 0))) := ⟨zP BK551⟩
 have n2_ : Aside0 (IsS77 w ((w8.setCell ⟨gb551, 0, none⟩ (.int .i64 t547)).setCell ⟨gb551, 1, none⟩ (.int .i64 t548)) g546 t543 t549 t550) := ⟨zI2 HI546 NB546_542 NB546_551⟩
 have n3_ : Aside0 (Below w.heap.size w ((w8.setCell ⟨gb551, 0, none⟩ (.int .i64 t547)).setCell ⟨gb551, 1, none⟩ (.int .i64 t548))) := ⟨zB3 HB (zA (IsS77.ge HI546.out)) GE542 GE551⟩
 (try clear BK542)
 (try clear BK551)
 (try clear HI546)
 (try clear HB)
 generalize ((w8.setCell ⟨gb551, 0, none⟩ (.int .i64 t547)).setCell ⟨gb551, 1, none⟩ (.int .i64 t548)) = w12 at n0_ n1_ n2_ n3_ ⊢
 have BK542 := n0_
 have BK551 := n1_
 have HI546 := n2_
 have HB := n3_
 clear n0_ n1_ n2_ n3_
 have n0_ := zA (blk_drew BK542.out)
 have n1_ := zA (blk_drew BK551.out)
 have n2_ := zA (IsS77.drew HI546.out)
 have n3_ := zA (below_drew1 HB.out)
 clear BK542
 clear BK551
 clear HI546
 clear HB
 have BK542 := n0_
 have BK551 := n1_
 have HI546 := n2_
 have HB := n3_
 clear n0_ n1_ n2_ n3_
 refine start_ (n := 6) (S := fun w' => w'.cell? ⟨gb551, 0, none⟩ = some (.int .i64 t547) ∧ w'.cell? ⟨gb551, 1, none⟩ = some (.int .i64 t548)) (ds := []) #[false, false, false, false, false, false] (by kernel_rfl) rfl rfl ⟨(blk_cell BK551.out 0).trans rfl, (blk_cell BK551.out 1).trans rfl⟩ (fun hHeld => ?_)
 generalize w12.drew = w13 at BK542 BK551 HI546 HB hHeld ⊢
 refine pure_ (i := 1) (N := some 11) (v := ?_) (a' := ?_) #[false, true, false, false, false, false] rfl rfl (by kernel_rfl) (fun _ _ _ h => h) (Or.inl ⟨by rfl, ?_⟩) ?_ ?_
 rotate_left
 ·intro w'
  go_simp
  with_reducible rfl
 rotate_left
 ·exact zU
 refine take_ (i := 0) (N := some 10) (v := ?_) (a' := ?_) #[true, true, false, false, false, false] rfl rfl (by kernel_rfl) (fun _ _ _ h => h) (Or.inl ⟨by rfl, ?_⟩) hHeld ?_ ?_
 rotate_left
 ·rintro w' ⟨s0, s1⟩
  go_simp
  with_reducible rfl
 rotate_left
 ·exact zU
 refine one_ (i := 2) (N := some 12) #[true, true, true, false, false, false] rfl rfl (by kernel_rfl) (by decide) (fun K hK => ?_)
 refine goes_ Try.func52 (by kernel_rfl) rfl #[.pointer (some ⟨g546, 0, none⟩), .int .i64 34] (by rfl) rfl rfl zM ?_
 with_reducible refine (spec_l1Below.calls g546 t543 t549 t550 34 t552 t553 t554 w _ ?side1 ?side2 A4.out).mono ?_
 (case side1 => exact zI2 HI546 NB546_542 NB546_551)
 (case side2 => exact zB3 HB (zA (IsS77.ge HI546.out)) GE542 GE551)
 rintro e w14 ⟨rfl, hi, hb, hk⟩
 refine ⟨_, rfl, ?_⟩
 have n0_ := zA (KeepBut.blk hk (g' := gb542) (o := .cells #[.int .i64 0, .int .i64 0] 33 (0, 0)) (zD BK542) NB542_546.out (by simp))
 have n1_ := zA (KeepBut.blk hk (g' := gb551) (o := .cells #[.int .i64 t547, .int .i64 t548] 33 (0, 0)) (zD BK551) NB551_546.out (by simp))
 have n2_ := zA (hb)
 have n3_ := zA (hi)
 clear BK542
 clear BK551
 clear HB
 clear HI546
 have BK542 := n0_
 have BK551 := n1_
 have HB := n2_
 have HI546 := n3_
 clear n0_ n1_ n2_ n3_
 (try clear hb)
 (try clear hb2)
 (try clear hk)
 (try clear hi)
 refine hK.out _ _ ⟨(blk_cell BK551.out 0).trans rfl, (blk_cell BK551.out 1).trans rfl⟩ (fun hHeld => ?_)
 clear hK K
 refine norm_ (a' := ?_) ?_ ?_
 rotate_left
 ·show Act.put _ (some 12) _ = _
  simp only [Act.put, List.setIfInBounds_toArray, List.set_cons_zero, List.set_cons_succ, i64_w, i32_w]
  rfl
 refine pure_ (i := 3) (N := some 13) (v := ?_) (a' := ?_) #[true, true, true, true, false, false] rfl rfl (by kernel_rfl) (fun _ _ _ h => h) (Or.inl ⟨by rfl, ?_⟩) ?_ ?_
 rotate_left
 ·intro w'
  go_simp
  with_reducible rfl
 rotate_left
 ·exact zU
 refine one_ (i := 4) (N := none) #[true, true, true, true, true, false] rfl rfl (by kernel_rfl) (by decide) (fun K hK => ?_)
 have hs15 : w14.cell? ⟨gb542, 0, none⟩ = some (.int .i64 0) := (blk_cell BK542.out 0).trans rfl
 have hfs15 := blk_frozen BK542.out 0
 have hns15_1 := NB551_542.out
 have hms15_1 := NB542_551.out
 have hs16 : w14.cell? ⟨gb542, 1, none⟩ = some (.int .i64 0) := (blk_cell BK542.out 1).trans rfl
 have hfs16 := blk_frozen BK542.out 1
 have hns16_1 := NB551_542.out
 have hms16_1 := NB542_551.out
 refine skip_ (w1 := ?_) (by rfl) rfl ?_ ?_
 rotate_left
 ·go_simp
  rfl
 refine hK.out _ _ ⟨((cell_far (p := ⟨gb542, _, none⟩) NB551_542.out _).trans (((cell_far (p := ⟨gb542, _, none⟩) NB551_542.out _).trans (hHeld.1)))), ((cell_far (p := ⟨gb542, _, none⟩) NB551_542.out _).trans (((cell_far (p := ⟨gb542, _, none⟩) NB551_542.out _).trans (hHeld.2))))⟩ (fun hHeld => ?_)
 clear hK K
 refine pure_ (i := 5) (N := some 3) (v := ?_) (a' := ?_) #[true, true, true, true, true, true] rfl rfl (by kernel_rfl) (fun _ _ _ h => h) (Or.inl ⟨by rfl, ?_⟩) ?_ ?_
 rotate_left
 ·intro w'
  go_simp
  with_reducible rfl
 rotate_left
 ·exact zU
 refine done_ (by kernel_rfl) ?_
 try go_wp2
 refine bodyPost_ret (results_ct rfl _ _ gb542 33 #[.int .i64 t547, .int .i64 t548] (0, 0) _ rfl (zP BK542) Try.underlying33 rfl (by kernel_rfl)) rfl ?_
 exact ⟨zE, zB3 HB (zA (IsS77.ge HI546.out)) GE542 GE551⟩

/-! ### spec_DrawTableOfTerms: function 26 -/
def spec_DrawTableOfTerms.l0 : Nat → Int → List (S33) → Int → List Int → Int → Int → Option (Int × (List (S33)))
 | 0, _, _, _, _, _, _ => none
 | k + 1, x5, x6, x7, x559000, x559001, x559002 => if x7 > 0 then ((spec_l6Draw.f x559000 x559001 x559002 4).bind fun bt571 => (if x6.length < 8796093022208 then (spec_DrawTableOfTerms.l0 k x5 (x6 ++ [(⟨bt571.1, bt571.2.1⟩ : S33)]) (wrap64 (x7 - 1)) x559000 bt571.2.2.1 bt571.2.2.2) else (none))) else (some (x5, x6))
def spec_DrawTableOfTerms.f (k : Nat) (l0 : List Int) : Option (Int × (List (S33))) := (spec_l1New.f k l0).bind fun bt555 => ((spec_l1PickInt.f bt555.1 bt555.2.1 bt555.2.2 (([4, 4, 3, 5, 0, (-1), 6] : List Int))).bind fun bt562 => ((spec_l1Below.f bt555.1 bt562.2.1 bt562.2.2 4).bind fun bt568 => (spec_DrawTableOfTerms.l0 k bt562.1 (([] : List (S33))) bt568.1 bt555.1 bt568.2.1 bt568.2.2)))
theorem spec_DrawTableOfTerms.mono_l : ∀ k, (∀ y0 y1 y2 y3 y4 y5, LeO (spec_DrawTableOfTerms.l0 k y0 y1 y2 y3 y4 y5) (spec_DrawTableOfTerms.l0 (k + 1) y0 y1 y2 y3 y4 y5))
 | 0 => fun _ _ _ _ _ _ r h => by simp [spec_DrawTableOfTerms.l0] at h
 | k + 1 => by
  have ih0 := spec_DrawTableOfTerms.mono_l k
  ·intro y0 y1 y2 y3 y4 y5
   unfold spec_DrawTableOfTerms.l0
   repeat' first
   | (with_reducible exact ih0 _ _ _ _ _ _)
   | (with_reducible exact spec_l1New.mono _ _)
   | (with_reducible exact LeO.refl _)
   | (with_reducible exact LeO.none _)
   | (with_reducible refine LeO.ite ?_ ?_)
   | (with_reducible refine LeO.bind ?_ (fun _ => ?_))
   | exact ih0 _ _ _ _ _ _
   | exact spec_l1New.mono _ _
   | exact LeO.none _
   | refine LeO.ite ?_ ?_
   | refine LeO.bind ?_ (fun _ => ?_)
theorem spec_DrawTableOfTerms.mono : ∀ a0 k, LeO (spec_DrawTableOfTerms.f k a0) (spec_DrawTableOfTerms.f (k + 1) a0) := by
 intro a0 k
 have ih0 := spec_DrawTableOfTerms.mono_l k
 unfold spec_DrawTableOfTerms.f
 repeat' first
   | (with_reducible exact ih0 _ _ _ _ _ _)
   | (with_reducible exact spec_l1New.mono _ _)
   | (with_reducible exact LeO.refl _)
   | (with_reducible exact LeO.none _)
   | (with_reducible refine LeO.ite ?_ ?_)
   | (with_reducible refine LeO.bind ?_ (fun _ => ?_))
   | exact ih0 _ _ _ _ _ _
   | exact spec_l1New.mono _ _
   | exact LeO.none _
   | refine LeO.ite ?_ ?_
   | refine LeO.bind ?_ (fun _ => ?_)
set_option maxHeartbeats 8000000 in
set_option maxRecDepth 100000 in
theorem spec_DrawTableOfTerms.calls (k : Nat) (A0 : Option Addr) (c0 : Nat) (l0 : List Int) (r1 : Int) (r2 : List (S33)) (w : World) (hr0 : Kd.C (Kd.int .u8) w A0 l0.length l0) (hc0 : l0.length ≤ c0) (h : spec_DrawTableOfTerms.f k l0 = some (r1, r2)) :
  Calls Try.prog 26 #[.slice A0 l0.length c0] w fun e w' => ∃ v1_ : Value, e = .returned (.tuple #[.int .i64 r1, v1_]) ∧ Kd.R k33 33 w' w.heap.size (fun _ => True) v1_ r2 ∧ Below w.heap.size w w' := by
 have HR0 := zA hr0
 have HC0 := zA hc0
 clear hr0 hc0
 have HB := zA (Below.refl w.heap.size w)
 have H := h
 unfold spec_DrawTableOfTerms.f at H
 clear h
 replace H := Option.bind_eq_some_iff.mp H
 obtain ⟨⟨t555, t556, t557⟩, A20, H⟩ := H
 replace H : ((spec_l1PickInt.f t555 t556 t557 (([4, 4, 3, 5, 0, (-1), 6] : List Int))).bind fun bt562 => ((spec_l1Below.f t555 bt562.2.1 bt562.2.2 4).bind fun bt568 => (spec_DrawTableOfTerms.l0 k bt562.1 (([] : List (S33))) bt568.1 t555 bt568.2.1 bt568.2.2))) = some (r1, r2) := H
 have A2 := zA A20
 clear A20
 obtain ⟨y559, hy559⟩ : ∃ y_ : List Int, y_ = (([4, 4, 3, 5, 0, (-1), 6] : List Int)) := ⟨_, rfl⟩
 replace H : ((spec_l1PickInt.f t555 t556 t557 y559).bind fun bt562 => ((spec_l1Below.f t555 bt562.2.1 bt562.2.2 4).bind fun bt568 => (spec_DrawTableOfTerms.l0 k bt562.1 (([] : List (S33))) bt568.1 t555 bt568.2.1 bt568.2.2))) = some (r1, r2) := by first | (rw [hy559]; with_reducible exact H) | (have H2_ := (Option.bind_some _ _).symm.trans H; rw [hy559]; with_reducible exact H2_) | (have H2_ := (Option.bind_some _ _).symm.trans H; with_reducible exact H2_) | with_reducible exact H | (rw [hy559]; exact H) | exact H
 have Ny559 := zA hy559
 clear hy559
 replace H := Option.bind_eq_some_iff.mp H
 obtain ⟨⟨t562, t563, t564⟩, A30, H⟩ := H
 replace H : ((spec_l1Below.f t555 t563 t564 4).bind fun bt568 => (spec_DrawTableOfTerms.l0 k t562 (([] : List (S33))) bt568.1 t555 bt568.2.1 bt568.2.2)) = some (r1, r2) := H
 have A3 := zA A30
 clear A30
 obtain ⟨y565, hy565⟩ : ∃ y_ : List (S33), y_ = (([] : List (S33))) := ⟨_, rfl⟩
 replace H : ((spec_l1Below.f t555 t563 t564 4).bind fun bt568 => (spec_DrawTableOfTerms.l0 k t562 y565 bt568.1 t555 bt568.2.1 bt568.2.2)) = some (r1, r2) := by first | (rw [hy565]; with_reducible exact H) | (have H2_ := (Option.bind_some _ _).symm.trans H; rw [hy565]; with_reducible exact H2_) | (have H2_ := (Option.bind_some _ _).symm.trans H; with_reducible exact H2_) | with_reducible exact H | (rw [hy565]; exact H) | exact H
 have Ny565 := zA hy565
 clear hy565
 replace H := Option.bind_eq_some_iff.mp H
 obtain ⟨⟨t568, t569, t570⟩, A40, H⟩ := H
 replace H : (spec_DrawTableOfTerms.l0 k t562 y565 t568 t555 t569 t570) = some (r1, r2) := H
 have A4 := zA A40
 clear A40
 have H' := zA H
 clear H
 go_enter Try.func26, Try.ntmps26
 go_wp2_with (first | ((with_reducible refine gate_callee (f := 33) rfl ?_); refine goesL_ (some 9) rfl rfl Try.func33 (by kernel_rfl) rfl #[.slice A0 l0.length c0] rfl zM ?_; (with_reducible refine (spec_l1New.calls k _ _ l0 t555 t556 t557 w _ ?side1 ?side2 ?side3 A2.out).mono ?_); (case side1 => exact zB HB); (case side2 => exact HR0.out); (case side3 => exact HC0.out); rintro e w5 ⟨g558, rfl, hi, hb, hb2⟩; refine ⟨_, rfl, ?_⟩; have HI558 := zA (hi); replace HB := zA (hb); (try clear hb); (try clear hb2); (try clear hk); (try clear hi)) | ((with_reducible refine gate_dst (N := 11) rfl ?_); refine Kd.R_lit (Kd.int .i64) _ 3 ?hg (N := 11) ?hd (xs := ([4, 4, 3, 5, 0, (-1), 6] : List Int)) (inner := [.int .i64 4, .int .i64 4, .int .i64 3, .int .i64 5, .int .i64 0, .int .i64 (-1), .int .i64 6]) (ok := fun _ => True) (okp := fun _ => True) ?hr ?hp (fun _ hk => hk) trivial (Below.refl _ _) (Nat.le_refl _) (by simp) ?_; (case hd => rfl); (case hg => rfl); (case hr => exact zH); (case hp => exact (Reps.one (show Kd.M (Kd.int .i64) _ _ _ 4 [.int .i64 4] from rfl) (Reps.one (show Kd.M (Kd.int .i64) _ _ _ 4 [.int .i64 4] from rfl) (Reps.one (show Kd.M (Kd.int .i64) _ _ _ 3 [.int .i64 3] from rfl) (Reps.one (show Kd.M (Kd.int .i64) _ _ _ 5 [.int .i64 5] from rfl) (Reps.one (show Kd.M (Kd.int .i64) _ _ _ 0 [.int .i64 0] from rfl) (Reps.one (show Kd.M (Kd.int .i64) _ _ _ (-1) [.int .i64 (-1)] from rfl) (Reps.one (show Kd.M (Kd.int .i64) _ _ _ 6 [.int .i64 6] from rfl) (Reps.none _ _))))))))); intro v560 w6 ho7 hb hg_ hnew_; clear hg_ hnew_; (first | rw [← Ny559.out] at ho7 | (simp only [Int.reduceToNat] at ho7; rw [← Ny559.out] at ho7)); have HO561 := zA (Kd.R_lower ho7 (below_size (zB1 HB (zA (IsS77.ge HI558.out))))); replace HB := zA (below_step (zB1 HB (zA (IsS77.ge HI558.out))) hb); replace HI558 := zA (IsS77.below (zI HI558) hb); clear hb ho7; obtain ⟨Ao8, co8, eo8⟩ := Kd.R_slice HO561.out; subst eo8) | ((with_reducible refine gate_callee (f := 57) rfl ?_); refine goesL_ (some 12) rfl rfl Try.func57 (by kernel_rfl) rfl #[.pointer (some ⟨g558, 0, none⟩), .slice Ao8 y559.length co8] rfl zM ?_; (with_reducible refine (spec_l1PickInt.calls g558 t555 t556 t557 _ _ y559 t562 t563 t564 w _ ?side1 ?side2 ?side3 ?side4 ?side5 A3.out).mono ?_); (case side1 => exact zI HI558); (case side2 => exact zB1 HB (zA (IsS77.ge HI558.out))); (case side3 => exact zC (Kd.R_reads' HO561.out).2.2); (case side4 => exact (Kd.R_reads' HO561.out).2.1); (case side5 => exact far_slice (IsS77.own_ne HI558.out HO561.out (by decide))); rintro e w9 ⟨rfl, hi, hb, hk⟩; refine ⟨_, rfl, ?_⟩; replace HO561 := zA (Kd.R_mono (Kd.R_keep (IsS77.apart (show IsS77 w _ g558 t555 t556 t557 from zI HI558) (zR HO561) (by decide)) hk (fun _ h => h.2)) (fun _ h => h.1)); replace HB := zA (hb); replace HI558 := zA (hi); (try clear hb); (try clear hb2); (try clear hk); (try clear hi)) | ((with_reducible refine gate_dst (N := 13) rfl ?_); refine Kd.R_lit k33 _ 33 ?hg (N := 13) ?hd (xs := ([] : List (S33))) (inner := []) (ok := fun _ => True) (okp := fun _ => True) ?hr ?hp (fun _ hk => hk) trivial (Below.refl _ _) (Nat.le_refl _) (by simp) ?_; (case hd => rfl); (case hg => rfl); (case hr => exact zH); (case hp => exact (Reps.none _ _)); intro v566 w10 ho11 hb hg_ hnew_; clear hg_ hnew_; (first | rw [← Ny565.out] at ho11 | (simp only [Int.reduceToNat] at ho11; rw [← Ny565.out] at ho11)); have HO567 := zA (Kd.R_lower ho11 (below_size (zB1 HB (zA (IsS77.ge HI558.out))))); replace HO561 := zA (Kd.R_below (zR HO561) hb); replace HB := zA (below_step (zB1 HB (zA (IsS77.ge HI558.out))) hb); replace HI558 := zA (IsS77.below (zI HI558) hb); clear hb ho11) | ((with_reducible refine gate_callee (f := 52) rfl ?_); refine goesL_ (some 15) rfl rfl Try.func52 (by kernel_rfl) rfl #[.pointer (some ⟨g558, 0, none⟩), .int .i64 4] rfl zM ?_; (with_reducible refine (spec_l1Below.calls g558 t555 t563 t564 4 t568 t569 t570 w _ ?side1 ?side2 A4.out).mono ?_); (case side1 => exact zI HI558); (case side2 => exact zB1 HB (zA (IsS77.ge HI558.out))); rintro e w12 ⟨rfl, hi, hb, hk⟩; refine ⟨_, rfl, ?_⟩; replace HO561 := zA (Kd.R_mono (Kd.R_keep (IsS77.apart (show IsS77 w _ g558 t555 t563 t564 from zI HI558) (zR HO561) (by decide)) hk (fun _ h => h.2)) (fun _ h => h.1)); replace HO567 := zA (Kd.R_mono (Kd.R_keep (IsS77.apart (show IsS77 w _ g558 t555 t563 t564 from zI HI558) (zR HO567) (by decide)) hk (fun _ h => h.2)) (fun _ h => h.1)); replace HB := zA (hb); replace HI558 := zA (hi); (try clear hb); (try clear hb2); (try clear hk); (try clear hi)))
 go_loopg [6, 7] k (fun kq v6 v7 w' => ∃ (x6_1 : List (S33)) (x7_1 : Int) (x559001_1 : Int) (x559002_1 : Int), v7 = .int .i64 x7_1 ∧ Aside0 (spec_DrawTableOfTerms.l0 kq t562 x6_1 x7_1 t555 x559001_1 x559002_1 = some (r1, r2)) ∧ Aside0 (kq ≤ k) ∧ Aside0 (Kd.R k33 33 w' w.heap.size (fun _ => True) v6 x6_1) ∧ Aside0 (IsS77 w w' g558 t555 x559001_1 x559002_1) ∧ Aside0 (Below w.heap.size w w'))
 case atStart => exact ⟨(y565), (t568), (t569), (t570), zS, H', ⟨Nat.le_refl _⟩, ⟨zR HO567⟩, ⟨zI HI558⟩, ⟨zB1 HB (zA (IsS77.ge HI558.out))⟩⟩
 case round =>
  clear H'
  obtain ⟨x6_1, x7_1, x559001_1, x559002_1, rfl, HA, HK1, HO_6, HI558, HB⟩ := hrel
  cases gk with
  | zero => exact absurd HA.out (by simp [spec_DrawTableOfTerms.l0])
  | succ k1 =>
   have H := HA.out
   clear HA
   simp only [spec_DrawTableOfTerms.l0] at H
   by_cases c13 : x7_1 > 0
   ·rw [if_pos c13] at H
    have c13b0 : decide (0 < x7_1) = true := decide_eq_true c13
    clear c13
    replace H := Option.bind_eq_some_iff.mp H
    obtain ⟨⟨t571, t572, t573, t574⟩, A140, H⟩ := H
    replace H : (if x6_1.length < 8796093022208 then (spec_DrawTableOfTerms.l0 k1 t562 (x6_1 ++ [(⟨t571, t572⟩ : S33)]) (wrap64 (x7_1 - 1)) t555 t573 t574) else (none)) = some (r1, r2) := H
    have A14 := zA A140
    clear A140
    by_cases c15 : x6_1.length < 8796093022208
    ·rw [if_pos c15] at H
     have LMc15 := zA c15
     clear c15
     obtain ⟨y575, hy575⟩ : ∃ y_ : List (S33), y_ = (x6_1 ++ [(⟨t571, t572⟩ : S33)]) := ⟨_, rfl⟩
     replace H : (spec_DrawTableOfTerms.l0 k1 t562 y575 (wrap64 (x7_1 - 1)) t555 t573 t574) = some (r1, r2) := by first | (rw [hy575]; with_reducible exact H) | (have H2_ := (Option.bind_some _ _).symm.trans H; rw [hy575]; with_reducible exact H2_) | (have H2_ := (Option.bind_some _ _).symm.trans H; with_reducible exact H2_) | with_reducible exact H | (rw [hy575]; exact H) | exact H
     have Ny575 := zA hy575
     clear hy575
     have H' := zA H
     clear H
     go_wp2_with (first | ((with_reducible refine gate_callee (f := 56) rfl ?_); refine goesL_ (some 22) rfl rfl Try.func56 (by kernel_rfl) rfl #[.pointer (some ⟨g558, 0, none⟩), .int .i64 4] rfl zM ?_; (with_reducible refine (spec_l6Draw.calls g558 t555 x559001_1 x559002_1 4 t571 t572 t573 t574 w _ ?side1 ?side2 A14.out).mono ?_); (case side1 => exact zI HI558); (case side2 => exact zB1 HB (zA (IsS77.ge HI558.out))); rintro e w16 ⟨rfl, hi, hb, hk⟩; refine ⟨_, rfl, ?_⟩; replace HO_6 := zA (Kd.R_mono (Kd.R_keep (IsS77.apart (show IsS77 w _ g558 t555 x559001_1 x559002_1 from zI HI558) (zR HO_6) (by decide)) hk (fun _ h => h.2)) (fun _ h => h.1)); replace HB := zA (hb); replace HI558 := zA (hi); (try clear hb); (try clear hb2); (try clear hk); (try clear hi)) | ((with_reducible refine gate_builtin (b := .append) (xs := #[.tmp 20, .tmp 23]) rfl ?_); at_builtin; refine Kd.R_append k33 (w0 := w) w.heap.size rfl (.tmp 20) (.tmp 23) 27 33 (.agg #[(.int .i64 0), (.int .i64 0)]) 16 rfl Try.underlying27 info33 rfl (by decide) (by omega) u6 x6_1 (⟨t571, t572⟩ : S33) [.int .i64 t571, .int .i64 t572] (fun _ => True) (fun _ => False) rfl rfl ?aP (fun _ hk => hk.elim) ?aF ?aO ?aB ?aS ?aL ?_; (case aP => exact k33_mkM _ _ _ (⟨t571, t572⟩ : S33)); (case aB => exact (zB1 HB (zA (IsS77.ge HI558.out)))); (case aF => exact (fun _ _ => trivial)); (case aO => exact (zR HO_6)); (case aS => exact (below_size (zB1 HB (zA (IsS77.ge HI558.out))))); (case aL => have := LMc15.out; omega); intro v576 w17 ho hb hg hat; rw [← Ny575.out] at ho; have n0_ := zA (IsS77.grown (zI HI558) hg (IsS77.own_ne HI558.out HO_6.out (by decide))); have n1_ := zA (hb); have n2_ := zA (ho); clear HI558; clear HB; clear HO_6; have HI558 := n0_; have HB := n1_; have HO577 := n2_; clear n0_ n1_ n2_; clear ho hb hg hat))
     go_roundg k1
     case measure => have := HK1.out; omega
     case rel => exact ⟨(y575), (wrap64 (x7_1 - 1)), (t573), (t574), zS, H', ⟨by have := HK1.out; omega⟩, ⟨zR HO577⟩, ⟨zI HI558⟩, ⟨zB1 HB (zA (IsS77.ge HI558.out))⟩⟩
    ·rw [if_neg c15] at H
     exact absurd H (by simp)
   ·rw [if_neg c13] at H
    have c13b0 : decide (0 < x7_1) = false := decide_eq_false c13
    clear c13
    simp only [Option.some.injEq, Prod.mk.injEq] at H
    obtain ⟨rfl, rfl⟩ := H
    go_wp2
    go_ret2
    exact ⟨_, zE, by (with_reducible repeat (first | apply Kd.R_alloc | apply Kd.R_drewN | apply Kd.R_drew)); exact HO_6.out, zB1 HB (zA (IsS77.ge HI558.out))⟩

end Go.Proofs.Ytfiejicdlaknnaa.P

-- spoil_mended
