/- FnIntegerEncodings: the law's walk, straight on, over facts that are told ahead: what each draw and each encoding comes to. No conditions but those that stand in the theorems. -/
import Derived.Test.YteejnblkbcekmaaDoorP0
import Derived.Test.YteejnblkbcekmaaDoorGdx
import Derived.Test.YteejnblkbcekmaaDoorPb1
import Derived.Test.YteejnblkbcekmaaDoorPb2
import Derived.Test.YteejnblkbcekmaaDoorPb3
import Derived.Test.YteejnblkbcekmaaDoorPb4
import Derived.Test.YteejnblkbcekmaaDoorPn4
import Derived.Test.YteejnblkbcekmaaDoorPz9
import Derived.Test.YteejnblkbcekmaaDoorPq1
namespace Go.Proofs.YteejnblkbcekmaaDoor.P
set_option linter.unusedVariables false
set_option linter.unusedSimpArgs false
open Go.RowKit Go.Proofs.YteejnblkbcekmaaDoorW.PrintWords Go.Proofs.YteejnblkbcekmaaDoorW.PrintLast Go.Proofs.YteejnblkbcekmaaDoorW.PrintMore
attribute [local go_sem] max2_int min2_int max_two min_two

set_option maxHeartbeats 8000000 in
set_option maxRecDepth 100000 in
theorem enc_calls (k : Nat) (A0 : Option Addr) (c0 : Nat) (l0 : List Int) (w : World) (n x kk v wd y z : Int) (tail s f g h d : ByteArray) (is good : Bool) (hr0 : Kd.C (Kd.int .u8) w A0 l0.length l0) (hc0 : l0.length ≤ c0) (HT : Aside0 (TB w))
    (a2 : laws_big.f l0 = some false) (a4 : spec_DrawEncodeVarint.f k l0 = some n) (a5 : spec_DrawEncodeHex.f k l0 = some tail) (a6 : impl_EncodeVarint.f k n = some s) (a7 : s.size + tail.size ≤ 9223372036854775807) (a8 : impl_DecodeVarint.f k (s ++ tail) = some (x, kk))
    (as_ : (s.toList = [] ∧ n < 0) ∨ (s.toList = [] ∧ 0 ≤ n ∧ 562949953421311 < n) ∨ (s.toList ≠ [] ∧ 0 ≤ n ∧ n ≤ 562949953421311 ∧ x = n ∧ kk = (s.size : Int)))
    (b1 : spec_DrawEncodeFixed.f k l0 = some (v, wd)) (b2 : impl_EncodeFixed.f k v wd = some f) (b5 : f.size + tail.size ≤ 9223372036854775807) (b3 : impl_DecodeFixed.f k (f ++ tail) wd = some (y, is)) (b4 : spec_EncodeFixed.f k v wd = some g)
    (bs_ : (f.toList = [] ∧ g.toList = []) ∨ (f.toList ≠ [] ∧ g.toList ≠ [] ∧ is = true ∧ y = v ∧ (f.size : Int) = wd))
    (c1 : impl_EncodeHex.f k tail = some h) (c2 : impl_DecodeHex.f k h = some (tail, true)) (c6 : (h.size : Int) = 2 * (tail.size : Int)) (c7 : tail.size ≤ 1000) (c3 : impl_FormatInt.f v = some d) (c4 : impl_ParseInt.f k d = some (z, good)) (c5 : spec_FormatInt.f k v = some d)
    (cs_ : (good = true ∧ z = v ∧ -1000000000 < v ∧ v < 1000000000) ∨ (good = false ∧ v ≤ -1000000000) ∨ (good = false ∧ -1000000000 < v ∧ 1000000000 ≤ v)) :
    Calls Tryd.prog 5 #[.slice A0 l0.length c0] w fun e w' => e = .returned (.bool true) ∧ Below w.heap.size w w' := by
  have HR0 := Aside0.mk hr0
  have HC0 := Aside0.mk hc0
  have HB := Aside0.mk (Below.refl w.heap.size w)
  have A2 := Aside0.mk a2
  have A4 := Aside0.mk a4
  have A5 := Aside0.mk a5
  have A6 := Aside0.mk a6
  have A8 := Aside0.mk a8
  have B1 := Aside0.mk b1
  have B2 := Aside0.mk b2
  have B3 := Aside0.mk b3
  have B4 := Aside0.mk b4
  have C1 := Aside0.mk c1
  have C2 := Aside0.mk c2
  have C3 := Aside0.mk c3
  have C4 := Aside0.mk c4
  have C5 := Aside0.mk c5
  have AS := Aside0.mk as_
  have BS := Aside0.mk bs_
  have CS := Aside0.mk cs_
  clear hr0 hc0 a2 a4 a5 a6 a8 as_ b1 b2 b3 b4 bs_ c1 c2 c3 c4 c5 cs_
  go_enter Tryd.func5, Tryd.ntmps5
  go_upto_region 7 with (first | ((with_reducible refine gate_callee (f := 10) rfl ?_); refine goesL_ (some 20) rfl rfl Tryd.func10 (by kernel_rfl) rfl #[.slice A0 l0.length c0] rfl (by (try simp only [List.map_toArray, List.map_cons, List.map_nil]); first | done | rfl | (simp only [List.length_drop, List.length_take]; rfl)) ?_; (with_reducible refine (laws_big.calls _ _ l0 false _ ?side1 ?side2 A2.out).mono ?_); (case side1 => repeat (first | exact (Kd.C_below HR0.out HB.out) | exact HR0.out | (with_reducible refine Kd.C_alloc ?_ _) | (with_reducible refine Kd.C_drewN ?_ _) | (with_reducible refine Kd.C_drew ?_))); (case side2 => exact HC0.out); rintro e w' ⟨rfl, ⟨nd1, rfl⟩⟩; refine ⟨_, rfl, ?_⟩) | ((with_reducible refine gate_callee (f := 11) rfl ?_); refine goesL_ (some 22) rfl rfl Tryd.func11 (by kernel_rfl) rfl #[.slice A0 l0.length c0] rfl (by (try simp only [List.map_toArray, List.map_cons, List.map_nil]); first | done | rfl | (simp only [List.length_drop, List.length_take]; rfl)) ?_; (with_reducible refine (spec_DrawEncodeVarint.calls k _ _ l0 n _ ?side1 ?side2 A4.out).mono ?_); (case side1 => repeat (first | exact (Kd.C_below HR0.out HB.out) | exact HR0.out | (with_reducible refine Kd.C_alloc ?_ _) | (with_reducible refine Kd.C_drewN ?_ _) | (with_reducible refine Kd.C_drew ?_))); (case side2 => exact HC0.out); rintro e w102 ⟨rfl, hb⟩; refine ⟨_, rfl, ?_⟩; have n0_ := Aside0.mk (below_step (by repeat (first | (with_reducible first | exact HB.out | apply below_alloc | apply pw_below_drewN | apply below_drew1) | exact HB.out)) hb); clear HB; have HB := n0_; clear n0_; (try clear hb)) | ((with_reducible refine gate_callee (f := 12) rfl ?_); refine goesL_ (some 24) rfl rfl Tryd.func12 (by kernel_rfl) rfl #[.slice A0 l0.length c0] rfl (by (try simp only [List.map_toArray, List.map_cons, List.map_nil]); first | done | rfl | (simp only [List.length_drop, List.length_take]; rfl)) ?_; (with_reducible refine (spec_DrawEncodeHex.calls k _ _ l0 tail _ ?side1 ?side2 A5.out).mono ?_); (case side1 => repeat (first | exact (Kd.C_below HR0.out HB.out) | exact HR0.out | (with_reducible refine Kd.C_alloc ?_ _) | (with_reducible refine Kd.C_drewN ?_ _) | (with_reducible refine Kd.C_drew ?_))); (case side2 => exact HC0.out); rintro e w103 ⟨rfl, hb⟩; refine ⟨_, rfl, ?_⟩; have n0_ := Aside0.mk (below_step (by repeat (first | (with_reducible first | exact HB.out | apply below_alloc | apply pw_below_drewN | apply below_drew1) | exact HB.out)) hb); clear HB; have HB := n0_; clear n0_; (try clear hb)) | ((with_reducible refine gate_callee (f := 13) rfl ?_); refine goesL_ (some 26) rfl rfl Tryd.func13 (by kernel_rfl) rfl #[.int .i64 n] rfl (by (try simp only [List.map_toArray, List.map_cons, List.map_nil]); first | done | rfl | (simp only [List.length_drop, List.length_take]; rfl)) ?_; (with_reducible refine (impl_EncodeVarint.calls k n s _ A6.out).mono ?_); rintro e w104 ⟨rfl, hb⟩; refine ⟨_, rfl, ?_⟩; have n0_ := Aside0.mk (below_step (by repeat (first | (with_reducible first | exact HB.out | apply below_alloc | apply pw_below_drewN | apply below_drew1) | exact HB.out)) hb); clear HB; have HB := n0_; clear n0_; (try clear hb)) | ((with_reducible refine gate_callee (f := 14) rfl ?_); refine goesL_ (some 31) rfl rfl Tryd.func14 (by kernel_rfl) rfl #[.string (s ++ tail)] rfl (by (try simp only [List.map_toArray, List.map_cons, List.map_nil]); first | done | rfl | (simp only [List.length_drop, List.length_take]; rfl)) ?_; (with_reducible refine (impl_DecodeVarint.calls k (s ++ tail) x kk _ A8.out).mono ?_); rintro e w' ⟨rfl, ⟨nd5, rfl⟩⟩; refine ⟨_, rfl, ?_⟩))
  (try simp only [Act.put, List.setIfInBounds_toArray, List.set_cons_zero, List.set_cons_succ])
  go_cut [57] (fun v57 wc => v57 = .bool false ∧ Aside0 (Below w.heap.size w wc))
  case first =>
    rcases AS.out with ⟨e1, e2⟩ | ⟨e1, e2, e3⟩ | ⟨e1, e2, e3, e4, e5⟩
    · have p1 : (s.toList == ([] : List UInt8)) = true := beq_iff_eq.mpr e1
      have p2 : (s.toList != ([] : List UInt8)) = false := bne_eq_false_iff_eq.mpr e1
      have p3 : decide (0 ≤ n) = false := decide_eq_false (by omega)
      clear e1 e2
      go_wp2
      go_meet
      case rel => exact ⟨(by first | rfl | (simp; done) | (simp [*]; done)), ⟨by repeat (first | (with_reducible first | exact HB.out | apply below_alloc | apply pw_below_drewN | apply below_drew1) | exact HB.out)⟩⟩
    · have p1 : (s.toList == ([] : List UInt8)) = true := beq_iff_eq.mpr e1
      have p2 : (s.toList != ([] : List UInt8)) = false := bne_eq_false_iff_eq.mpr e1
      have p3 : decide (0 ≤ n) = true := decide_eq_true e2
      have p4 : decide (n ≤ 562949953421311) = false := decide_eq_false (by omega)
      clear e1
      go_wp2
      go_meet
      case rel => exact ⟨(by first | rfl | (simp; done) | (simp [*]; done)), ⟨by repeat (first | (with_reducible first | exact HB.out | apply below_alloc | apply pw_below_drewN | apply below_drew1) | exact HB.out)⟩⟩
    · have p1 : (s.toList == ([] : List UInt8)) = false := beq_eq_false_iff_ne.mpr e1
      have p2 : (s.toList != ([] : List UInt8)) = true := bne_iff_ne.mpr e1
      have p3 : decide (0 ≤ n) = true := decide_eq_true e2
      have p4 : decide (n ≤ 562949953421311) = true := decide_eq_true e3
      have p5 : (x == n) = true := beq_iff_eq.mpr e4
      have p6 : (x != n) = false := bne_eq_false_iff_eq.mpr e4
      have p7 : (kk == (s.size : Int)) = true := beq_iff_eq.mpr e5
      have p8 : (kk != (s.size : Int)) = false := bne_eq_false_iff_eq.mpr e5
      clear e1 e4 e5
      go_wp2
      go_meet
      case rel => exact ⟨(by first | rfl | (simp; done) | (simp [*]; done)), ⟨by repeat (first | (with_reducible first | exact HB.out | apply below_alloc | apply pw_below_drewN | apply below_drew1) | exact HB.out)⟩⟩
  case rest =>
    obtain ⟨rfl, HB⟩ := hcut
    go_upto_region 12 with (first | ((with_reducible refine gate_callee (f := 15) rfl ?_); refine goesL_ (some 60) rfl rfl Tryd.func15 (by kernel_rfl) rfl #[.slice A0 l0.length c0] rfl (by (try simp only [List.map_toArray, List.map_cons, List.map_nil]); first | done | rfl | (simp only [List.length_drop, List.length_take]; rfl)) ?_; (with_reducible refine (spec_DrawEncodeFixed.calls k _ _ l0 v wd _ ?side1 ?side2 B1.out).mono ?_); (case side1 => repeat (first | exact (Kd.C_below HR0.out HB.out) | exact HR0.out | (with_reducible refine Kd.C_alloc ?_ _) | (with_reducible refine Kd.C_drewN ?_ _) | (with_reducible refine Kd.C_drew ?_))); (case side2 => exact HC0.out); rintro e w106 ⟨rfl, hb⟩; refine ⟨_, rfl, ?_⟩; have n0_ := Aside0.mk (below_step (by repeat (first | (with_reducible first | exact HB.out | apply below_alloc | apply pw_below_drewN | apply below_drew1) | exact HB.out)) hb); clear HB; have HB := n0_; clear n0_; (try clear hb)) | ((with_reducible refine gate_callee (f := 16) rfl ?_); refine goesL_ (some 65) rfl rfl Tryd.func16 (by kernel_rfl) rfl #[.int .i64 v, .int .i64 wd] rfl (by (try simp only [List.map_toArray, List.map_cons, List.map_nil]); first | done | rfl | (simp only [List.length_drop, List.length_take]; rfl)) ?_; (with_reducible refine (impl_EncodeFixed.calls k v wd f _ B2.out).mono ?_); rintro e w107 ⟨rfl, hb⟩; refine ⟨_, rfl, ?_⟩; have n0_ := Aside0.mk (below_step (by repeat (first | (with_reducible first | exact HB.out | apply below_alloc | apply pw_below_drewN | apply below_drew1) | exact HB.out)) hb); clear HB; have HB := n0_; clear n0_; (try clear hb)) | ((with_reducible refine gate_callee (f := 17) rfl ?_); refine goesL_ (some 71) rfl rfl Tryd.func17 (by kernel_rfl) rfl #[.string (f ++ tail), .int .i64 wd] rfl (by (try simp only [List.map_toArray, List.map_cons, List.map_nil]); first | done | rfl | (simp only [List.length_drop, List.length_take]; rfl)) ?_; (with_reducible refine (impl_DecodeFixed.calls k (f ++ tail) wd y is _ B3.out).mono ?_); rintro e w' ⟨rfl, ⟨nd8, rfl⟩⟩; refine ⟨_, rfl, ?_⟩))
    (try simp only [Act.put, List.setIfInBounds_toArray, List.set_cons_zero, List.set_cons_succ])
    go_cut [99] (fun v99 wc => v99 = .bool false ∧ Aside0 (Below w.heap.size w wc))
    case first =>
      rcases BS.out with ⟨e1, e2⟩ | ⟨e1, e2, e3, e4, e5⟩
      · have p1 : (f.toList == ([] : List UInt8)) = true := beq_iff_eq.mpr e1
        have p2 : (f.toList != ([] : List UInt8)) = false := bne_eq_false_iff_eq.mpr e1
        have p3 : (g.toList == ([] : List UInt8)) = true := beq_iff_eq.mpr e2
        have p4 : (g.toList != ([] : List UInt8)) = false := bne_eq_false_iff_eq.mpr e2
        clear e1 e2
        go_wp2_with (fail)
        refine (spec_EncodeFixed.calls k v wd g _ B4.out).mono ?_
        rintro e w1 ⟨rfl, hb⟩
        have n0_ := Aside0.mk (below_step (by repeat (first | (with_reducible first | exact HB.out | apply below_alloc | apply pw_below_drewN | apply below_drew1) | exact HB.out)) hb)
        clear HB hb
        have HB := n0_
        clear n0_
        go_wp2
        go_meet
        case rel => exact ⟨(by first | rfl | (simp; done) | (simp [*]; done)), ⟨by repeat (first | (with_reducible first | exact HB.out | apply below_alloc | apply pw_below_drewN | apply below_drew1) | exact HB.out)⟩⟩
      · subst e3
        have p1 : (f.toList == ([] : List UInt8)) = false := beq_eq_false_iff_ne.mpr e1
        have p2 : (f.toList != ([] : List UInt8)) = true := bne_iff_ne.mpr e1
        have p3 : (g.toList == ([] : List UInt8)) = false := beq_eq_false_iff_ne.mpr e2
        have p4 : (g.toList != ([] : List UInt8)) = true := bne_iff_ne.mpr e2
        have p5 : (y == v) = true := beq_iff_eq.mpr e4
        have p6 : (y != v) = false := bne_eq_false_iff_eq.mpr e4
        have p7 : ((f.size : Int) == wd) = true := beq_iff_eq.mpr e5
        have p8 : ((f.size : Int) != wd) = false := bne_eq_false_iff_eq.mpr e5
        clear e1 e2 e4 e5
        go_wp2_with (fail)
        refine (spec_EncodeFixed.calls k v wd g _ B4.out).mono ?_
        rintro e w1 ⟨rfl, hb⟩
        have n0_ := Aside0.mk (below_step (by repeat (first | (with_reducible first | exact HB.out | apply below_alloc | apply pw_below_drewN | apply below_drew1) | exact HB.out)) hb)
        clear HB hb
        have HB := n0_
        clear n0_
        go_wp2
        go_meet
        case rel => exact ⟨(by first | rfl | (simp; done) | (simp [*]; done)), ⟨by repeat (first | (with_reducible first | exact HB.out | apply below_alloc | apply pw_below_drewN | apply below_drew1) | exact HB.out)⟩⟩
    case rest =>
      obtain ⟨rfl, HB⟩ := hcut
      have q1 : (tail.toList == tail.toList) = true := beq_self_eq_true _
      have q2 : (d.toList == d.toList) = true := beq_self_eq_true _
      have q3 : ((h.size : Int) == wrap64 (2 * (tail.size : Int))) = true := by
        rw [show wrap64 (2 * (tail.size : Int)) = 2 * (tail.size : Int) by unfold wrap64; omega]
        exact beq_iff_eq.mpr c6
      have q4 : ((h.size : Int) == 2 * (tail.size : Int)) = true := beq_iff_eq.mpr c6
      rcases CS.out with ⟨e1, e2, e3, e4⟩ | ⟨e1, e2⟩ | ⟨e1, e2, e3⟩
      · subst e1
        have p1 : (z == v) = true := beq_iff_eq.mpr e2
        have p2 : decide (-1000000000 < v) = true := decide_eq_true e3
        have p3 : decide (v < 1000000000) = true := decide_eq_true e4
        clear e2
        go_wp2_with (first | ((with_reducible refine gate_callee (f := 19) rfl ?_); refine goesL_ (some 101) rfl rfl Tryd.func19 (by kernel_rfl) rfl #[.string tail] rfl (by (try simp only [List.map_toArray, List.map_cons, List.map_nil]); first | done | rfl | (simp only [List.length_drop, List.length_take]; rfl)) ?_; (with_reducible refine (impl_EncodeHex.calls k tail h _ C1.out).mono ?_); rintro e w110 ⟨rfl, hb⟩; refine ⟨_, rfl, ?_⟩; have n0_ := Aside0.mk (below_step (by repeat (first | (with_reducible first | exact HB.out | apply below_alloc | apply pw_below_drewN | apply below_drew1) | exact HB.out)) hb); clear HB; have HB := n0_; clear n0_; (try clear hb)) | ((with_reducible refine gate_callee (f := 20) rfl ?_); refine goesL_ (some 104) rfl rfl Tryd.func20 (by kernel_rfl) rfl #[.string h] rfl (by (try simp only [List.map_toArray, List.map_cons, List.map_nil]); first | done | rfl | (simp only [List.length_drop, List.length_take]; rfl)) ?_; (with_reducible refine (impl_DecodeHex.calls k h tail true _ C2.out).mono ?_); rintro e w111 ⟨rfl, hb⟩; refine ⟨_, rfl, ?_⟩; have n0_ := Aside0.mk (below_step (by repeat (first | (with_reducible first | exact HB.out | apply below_alloc | apply pw_below_drewN | apply below_drew1) | exact HB.out)) hb); clear HB; have HB := n0_; clear n0_; (try clear hb)) | ((with_reducible refine gate_callee (f := 7) rfl ?_); refine goesL_ (some 108) rfl rfl Tryd.func7 (by kernel_rfl) rfl #[.int .i64 v] rfl (by (try simp only [List.map_toArray, List.map_cons, List.map_nil]); first | done | rfl | (simp only [List.length_drop, List.length_take]; rfl)) ?_; (with_reducible refine (impl_FormatInt.calls v d _ C3.out (tb_below HT (by repeat (first | (with_reducible first | exact HB.out | apply below_alloc | apply pw_below_drewN | apply below_drew1) | exact HB.out)))).mono ?_); rintro e w112 ⟨rfl, hb⟩; refine ⟨_, rfl, ?_⟩; have n0_ := Aside0.mk (below_step (by repeat (first | (with_reducible first | exact HB.out | apply below_alloc | apply pw_below_drewN | apply below_drew1) | exact HB.out)) hb); clear HB; have HB := n0_; clear n0_; (try clear hb)) | ((with_reducible refine gate_callee (f := 9) rfl ?_); refine goesL_ (some 111) rfl rfl Tryd.func9 (by kernel_rfl) rfl #[.string d] rfl (by (try simp only [List.map_toArray, List.map_cons, List.map_nil]); first | done | rfl | (simp only [List.length_drop, List.length_take]; rfl)) ?_; (with_reducible refine (impl_ParseInt.calls k d z _ _ C4.out (tb_below HT (by repeat (first | (with_reducible first | exact HB.out | apply below_alloc | apply pw_below_drewN | apply below_drew1) | exact HB.out)))).mono ?_); rintro e w113 ⟨rfl, hb⟩; refine ⟨_, rfl, ?_⟩; have n0_ := Aside0.mk (below_step (by repeat (first | (with_reducible first | exact HB.out | apply below_alloc | apply pw_below_drewN | apply below_drew1) | exact HB.out)) hb); clear HB; have HB := n0_; clear n0_; (try clear hb)))
        refine (spec_FormatInt.calls k v d _ C5.out).mono ?_
        rintro e w1 ⟨rfl, hb⟩
        have n0_ := Aside0.mk (below_step (by repeat (first | (with_reducible first | exact HB.out | apply below_alloc | apply pw_below_drewN | apply below_drew1) | exact HB.out)) hb)
        clear HB hb
        have HB := n0_
        clear n0_
        go_wp2
        all_goals go_ret
        all_goals exact ⟨by first | rfl | (simp; done) | (simp [*]; done), by repeat (first | (with_reducible first | exact HB.out | apply below_alloc | apply pw_below_drewN | apply below_drew1) | exact HB.out)⟩
      · subst e1
        have p2 : decide (-1000000000 < v) = false := decide_eq_false (by omega)
        go_wp2_with (first | ((with_reducible refine gate_callee (f := 19) rfl ?_); refine goesL_ (some 101) rfl rfl Tryd.func19 (by kernel_rfl) rfl #[.string tail] rfl (by (try simp only [List.map_toArray, List.map_cons, List.map_nil]); first | done | rfl | (simp only [List.length_drop, List.length_take]; rfl)) ?_; (with_reducible refine (impl_EncodeHex.calls k tail h _ C1.out).mono ?_); rintro e w110 ⟨rfl, hb⟩; refine ⟨_, rfl, ?_⟩; have n0_ := Aside0.mk (below_step (by repeat (first | (with_reducible first | exact HB.out | apply below_alloc | apply pw_below_drewN | apply below_drew1) | exact HB.out)) hb); clear HB; have HB := n0_; clear n0_; (try clear hb)) | ((with_reducible refine gate_callee (f := 20) rfl ?_); refine goesL_ (some 104) rfl rfl Tryd.func20 (by kernel_rfl) rfl #[.string h] rfl (by (try simp only [List.map_toArray, List.map_cons, List.map_nil]); first | done | rfl | (simp only [List.length_drop, List.length_take]; rfl)) ?_; (with_reducible refine (impl_DecodeHex.calls k h tail true _ C2.out).mono ?_); rintro e w111 ⟨rfl, hb⟩; refine ⟨_, rfl, ?_⟩; have n0_ := Aside0.mk (below_step (by repeat (first | (with_reducible first | exact HB.out | apply below_alloc | apply pw_below_drewN | apply below_drew1) | exact HB.out)) hb); clear HB; have HB := n0_; clear n0_; (try clear hb)) | ((with_reducible refine gate_callee (f := 7) rfl ?_); refine goesL_ (some 108) rfl rfl Tryd.func7 (by kernel_rfl) rfl #[.int .i64 v] rfl (by (try simp only [List.map_toArray, List.map_cons, List.map_nil]); first | done | rfl | (simp only [List.length_drop, List.length_take]; rfl)) ?_; (with_reducible refine (impl_FormatInt.calls v d _ C3.out (tb_below HT (by repeat (first | (with_reducible first | exact HB.out | apply below_alloc | apply pw_below_drewN | apply below_drew1) | exact HB.out)))).mono ?_); rintro e w112 ⟨rfl, hb⟩; refine ⟨_, rfl, ?_⟩; have n0_ := Aside0.mk (below_step (by repeat (first | (with_reducible first | exact HB.out | apply below_alloc | apply pw_below_drewN | apply below_drew1) | exact HB.out)) hb); clear HB; have HB := n0_; clear n0_; (try clear hb)) | ((with_reducible refine gate_callee (f := 9) rfl ?_); refine goesL_ (some 111) rfl rfl Tryd.func9 (by kernel_rfl) rfl #[.string d] rfl (by (try simp only [List.map_toArray, List.map_cons, List.map_nil]); first | done | rfl | (simp only [List.length_drop, List.length_take]; rfl)) ?_; (with_reducible refine (impl_ParseInt.calls k d z _ _ C4.out (tb_below HT (by repeat (first | (with_reducible first | exact HB.out | apply below_alloc | apply pw_below_drewN | apply below_drew1) | exact HB.out)))).mono ?_); rintro e w113 ⟨rfl, hb⟩; refine ⟨_, rfl, ?_⟩; have n0_ := Aside0.mk (below_step (by repeat (first | (with_reducible first | exact HB.out | apply below_alloc | apply pw_below_drewN | apply below_drew1) | exact HB.out)) hb); clear HB; have HB := n0_; clear n0_; (try clear hb)))
        refine (spec_FormatInt.calls k v d _ C5.out).mono ?_
        rintro e w1 ⟨rfl, hb⟩
        have n0_ := Aside0.mk (below_step (by repeat (first | (with_reducible first | exact HB.out | apply below_alloc | apply pw_below_drewN | apply below_drew1) | exact HB.out)) hb)
        clear HB hb
        have HB := n0_
        clear n0_
        go_wp2
        all_goals go_ret
        all_goals exact ⟨by first | rfl | (simp; done) | (simp [*]; done), by repeat (first | (with_reducible first | exact HB.out | apply below_alloc | apply pw_below_drewN | apply below_drew1) | exact HB.out)⟩
      · subst e1
        have p2 : decide (-1000000000 < v) = true := decide_eq_true e2
        have p3 : decide (v < 1000000000) = false := decide_eq_false (by omega)
        go_wp2_with (first | ((with_reducible refine gate_callee (f := 19) rfl ?_); refine goesL_ (some 101) rfl rfl Tryd.func19 (by kernel_rfl) rfl #[.string tail] rfl (by (try simp only [List.map_toArray, List.map_cons, List.map_nil]); first | done | rfl | (simp only [List.length_drop, List.length_take]; rfl)) ?_; (with_reducible refine (impl_EncodeHex.calls k tail h _ C1.out).mono ?_); rintro e w110 ⟨rfl, hb⟩; refine ⟨_, rfl, ?_⟩; have n0_ := Aside0.mk (below_step (by repeat (first | (with_reducible first | exact HB.out | apply below_alloc | apply pw_below_drewN | apply below_drew1) | exact HB.out)) hb); clear HB; have HB := n0_; clear n0_; (try clear hb)) | ((with_reducible refine gate_callee (f := 20) rfl ?_); refine goesL_ (some 104) rfl rfl Tryd.func20 (by kernel_rfl) rfl #[.string h] rfl (by (try simp only [List.map_toArray, List.map_cons, List.map_nil]); first | done | rfl | (simp only [List.length_drop, List.length_take]; rfl)) ?_; (with_reducible refine (impl_DecodeHex.calls k h tail true _ C2.out).mono ?_); rintro e w111 ⟨rfl, hb⟩; refine ⟨_, rfl, ?_⟩; have n0_ := Aside0.mk (below_step (by repeat (first | (with_reducible first | exact HB.out | apply below_alloc | apply pw_below_drewN | apply below_drew1) | exact HB.out)) hb); clear HB; have HB := n0_; clear n0_; (try clear hb)) | ((with_reducible refine gate_callee (f := 7) rfl ?_); refine goesL_ (some 108) rfl rfl Tryd.func7 (by kernel_rfl) rfl #[.int .i64 v] rfl (by (try simp only [List.map_toArray, List.map_cons, List.map_nil]); first | done | rfl | (simp only [List.length_drop, List.length_take]; rfl)) ?_; (with_reducible refine (impl_FormatInt.calls v d _ C3.out (tb_below HT (by repeat (first | (with_reducible first | exact HB.out | apply below_alloc | apply pw_below_drewN | apply below_drew1) | exact HB.out)))).mono ?_); rintro e w112 ⟨rfl, hb⟩; refine ⟨_, rfl, ?_⟩; have n0_ := Aside0.mk (below_step (by repeat (first | (with_reducible first | exact HB.out | apply below_alloc | apply pw_below_drewN | apply below_drew1) | exact HB.out)) hb); clear HB; have HB := n0_; clear n0_; (try clear hb)) | ((with_reducible refine gate_callee (f := 9) rfl ?_); refine goesL_ (some 111) rfl rfl Tryd.func9 (by kernel_rfl) rfl #[.string d] rfl (by (try simp only [List.map_toArray, List.map_cons, List.map_nil]); first | done | rfl | (simp only [List.length_drop, List.length_take]; rfl)) ?_; (with_reducible refine (impl_ParseInt.calls k d z _ _ C4.out (tb_below HT (by repeat (first | (with_reducible first | exact HB.out | apply below_alloc | apply pw_below_drewN | apply below_drew1) | exact HB.out)))).mono ?_); rintro e w113 ⟨rfl, hb⟩; refine ⟨_, rfl, ?_⟩; have n0_ := Aside0.mk (below_step (by repeat (first | (with_reducible first | exact HB.out | apply below_alloc | apply pw_below_drewN | apply below_drew1) | exact HB.out)) hb); clear HB; have HB := n0_; clear n0_; (try clear hb)))
        refine (spec_FormatInt.calls k v d _ C5.out).mono ?_
        rintro e w1 ⟨rfl, hb⟩
        have n0_ := Aside0.mk (below_step (by repeat (first | (with_reducible first | exact HB.out | apply below_alloc | apply pw_below_drewN | apply below_drew1) | exact HB.out)) hb)
        clear HB hb
        have HB := n0_
        clear n0_
        go_wp2
        all_goals go_ret
        all_goals exact ⟨by first | rfl | (simp; done) | (simp [*]; done), by repeat (first | (with_reducible first | exact HB.out | apply below_alloc | apply pw_below_drewN | apply below_drew1) | exact HB.out)⟩
end Go.Proofs.YteejnblkbcekmaaDoor.P
