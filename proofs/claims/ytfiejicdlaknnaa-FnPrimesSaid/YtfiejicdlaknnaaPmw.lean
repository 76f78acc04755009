/- FnPrimes: the law's walk, straight on, over facts that are told ahead: what each draw and each call comes to. No conditions but those that stand in the theorems. -/
import Derived.Test.YtfiejicdlaknnaaK1
import Derived.Test.YtfiejicdlaknnaaK5
import Derived.Test.YtfiejicdlaknnaaK2
import Derived.Test.YtfiejicdlaknnaaPa0
import Derived.Test.YtfiejicdlaknnaaPb1
import Derived.Test.YtfiejicdlaknnaaPb2
import Derived.Test.YtfiejicdlaknnaaPb3
import Derived.Test.YtfiejicdlaknnaaPb4
import Derived.Test.YtfiejicdlaknnaaPb5
import Derived.Test.YtfiejicdlaknnaaPm1
import Derived.Test.YtfiejicdlaknnaaPv8
import Derived.Test.YtfiejicdlaknnaaPx5
import Derived.Test.YtfiejicdlaknnaaK4
import Derived.Test.YtfiejicdlaknnaaPz5
import Derived.Test.YtfiejicdlaknnaaPz6
namespace Go.Proofs.Ytfiejicdlaknnaa.P
open Go.RowKit Go.Proofs.Ytfiejicdlaknnaa.Bits Go.Proofs.YtfiejicdlaknnaaW.PrintWords Go.Proofs.YtfiejicdlaknnaaW.PrintLast Go.Proofs.YtfiejicdlaknnaaW.PrintMore
attribute [local go_sem] max2_int min2_int max_two min_two max_three min_three max_four min_four
set_option linter.unusedVariables false
set_option linter.unusedSimpArgs false
attribute [local go_sem high] eqA25 eqA33
attribute [local go_sem] fld25_0 fld25_1

theorem rd_in {l : List S33} {i : Int} (h0 : 0 ≤ i) (h1 : i < (l.length : Int)) : rd_T33 l i ∈ l := by
 obtain ⟨I, rfl⟩ := Int.eq_ofNat_of_zero_le h0
 exact rd_mem (by omega)
theorem rd_of {l : List S33} {t : S33} (h : t ∈ l) : ∃ j : Int, 0 ≤ j ∧ j < (l.length : Int) ∧ rd_T33 l j = t := by
 obtain ⟨j, hj, rfl⟩ := List.mem_iff_getElem.mp h
 exact ⟨(j : Int), by omega, by omega, Ess.rd_at hj⟩

theorem found_step {m d : List S33} {x i jj X : Int} (hx : x ≤ jj) (he : rd_T33 m jj = rd_T33 d i) (hw : X = x + 1) :
  ((rd_T33 m x).f0 == (rd_T33 d i).f0 && ((rd_T33 m x).f1 == (rd_T33 d i).f1)) = true ∨ (((rd_T33 m x).f0 == (rd_T33 d i).f0 && ((rd_T33 m x).f1 == (rd_T33 d i).f1)) = false ∧ X ≤ jj) := by
 subst hw
 by_cases e : x = jj
 ·left
  rw [e, he]
  simp
 ·rcases Bool.eq_false_or_eq_true ((rd_T33 m x).f0 == (rd_T33 d i).f0 && ((rd_T33 m x).f1 == (rd_T33 d i).f1)) with h2 | h2
  ·exact Or.inl h2
  ·exact Or.inr ⟨h2, by omega⟩

set_option maxHeartbeats 16000000 in
set_option maxRecDepth 100000 in
theorem pri_calls (k : Nat) (A0 : Option Addr) (c0 : Nat) (l0 : List Int) (hl : l0.length ≤ 1048576) (w : World) (hr0 : Kd.C (Kd.int .u8) w A0 l0.length l0) (hc0 : l0.length ≤ c0)
  (n wd : Int) (m q d : List S33) (is pr es : Bool) (fn t0 t1 : Int) (s : ByteArray) (x0 x1 : Int) (rdd : Bool) (an : Int) (sb : ByteArray) (e0 e1 : Int) (five : Bool) (h0 h1 k0 k1 : Int) (pb jb : Bool) (u0 u1 vx : Int) (ob : Bool) (wn : Int) (y : List S33) (z0 z1 : Int) (sv : Bool)
  (hm : m.length ≤ 1100) (hq : q.length ≤ 1100) (hd : d.length ≤ 1100)
  (a2 : laws_big.f l0 = some false)
  (d1 : spec_DrawMinimalSum.f k l0 = some (n, wd)) (m1 : impl_MinimalSum.f k n wd = some (m, is)) (m2 : spec_MinimalSum.f k n wd = some (m, is)) (sm : laws_sameTerms.f k m m = some true)
  (p1 : impl_PrimesOf.f k n wd = some (q, pr)) (p2 : spec_PrimesOf.f k n wd = some (q, pr)) (sq : laws_sameTerms.f k q q = some true)
  (q1 : impl_EssentialPrimes.f k n wd = some (d, es)) (q2 : spec_EssentialPrimes.f k n wd = some (d, es)) (sd : laws_sameTerms.f k d d = some true)
  (lp : ∀ t ∈ q, impl_IsPrimeTerm.f k n wd t.f0 t.f1 = some true ∧ impl_IsImplicant.f n wd t.f0 t.f1 = some true)
  (hy : is = false ∨ (is = true ∧ impl_TableOfTerms.f n m = some (n, wd, true) ∧ impl_TableOfTerms.f n q = some (n, wd, true) ∧ d.length ≤ m.length ∧ ∀ t ∈ d, t ∈ m))
  (d2 : spec_DrawFormatTerm.f k l0 = some (fn, t0, t1)) (fi : impl_FormatTerm.f k fn t0 t1 = some s) (pi : impl_ParseTerm.f k fn s = some (x0, x1, rdd)) (fs : spec_FormatTerm.f k fn t0 t1 = some s) (it : spec_IsTerm.f fn t0 t1 = some rdd) (ii : impl_IsTerm.f fn t0 t1 = some rdd) (xt : rdd = false ∨ (rdd = true ∧ x0 = t0 ∧ x1 = t1))
  (d3 : spec_DrawParseTerm.f k l0 = some (an, sb)) (r1 : impl_ParseTerm.f k an sb = some (e0, e1, five)) (r2 : spec_ParseTerm.f k an sb = some (e0, e1, five))
  (d4 : spec_DrawIsPrimeTerm.f k l0 = some (h0, h1, k0, k1)) (i1 : impl_IsPrimeTerm.f k h0 h1 k0 k1 = some pb) (i2 : spec_IsPrimeTerm.f k h0 h1 k0 k1 = some pb) (j1 : impl_IsImplicant.f h0 h1 k0 k1 = some jb) (j2 : spec_IsImplicant.f k h0 h1 k0 k1 = some jb)
  (d5 : spec_DrawTermHolds.f k l0 = some (u0, u1, vx)) (o1 : impl_TermHolds.f u0 u1 vx = some ob) (o2 : spec_TermHolds.f u0 u1 vx = some ob)
  (d6 : spec_DrawTableOfTerms.f k l0 = some (wn, y)) (g1 : impl_TableOfTerms.f wn y = some (z0, z1, sv)) (g2 : spec_TableOfTerms.f k wn y = some (z0, z1, sv)) :
  Calls Try.prog 3 #[.slice A0 l0.length c0] w fun e w' => e = .returned (.bool true) ∧ Below w.heap.size w w' := by
 have hu25 := Try.underlying25
 have hu33 := Try.underlying33
 have HR0 := zA hr0
 have HC0 := zA hc0
 have HB := zA (Below.refl w.heap.size w)
 have F_a2 := zA a2
 have F_d1 := zA d1
 have F_m1 := zA m1
 have F_m2 := zA m2
 have F_sm := zA sm
 have F_p1 := zA p1
 have F_p2 := zA p2
 have F_sq := zA sq
 have F_q1 := zA q1
 have F_q2 := zA q2
 have F_sd := zA sd
 have F_lp := zA lp
 have F_hy := zA hy
 have F_d2 := zA d2
 have F_fi := zA fi
 have F_pi := zA pi
 have F_fs := zA fs
 have F_it := zA it
 have F_ii := zA ii
 have F_xt := zA xt
 have F_d3 := zA d3
 have F_r1 := zA r1
 have F_r2 := zA r2
 have F_d4 := zA d4
 have F_i1 := zA i1
 have F_i2 := zA i2
 have F_j1 := zA j1
 have F_j2 := zA j2
 have F_d5 := zA d5
 have F_o1 := zA o1
 have F_o2 := zA o2
 have F_d6 := zA d6
 have F_g1 := zA g1
 have F_g2 := zA g2
 clear hr0 hc0 hl a2 d1 m1 m2 sm p1 p2 sq q1 q2 sd lp hy d2 fi pi fs it ii xt d3 r1 r2 d4 i1 i2 j1 j2 d5 o1 o2 d6 g1 g2
 go_enter Try.func3, Try.ntmps3
 go_upto_region 6 with (first | ((with_reducible refine gate_callee (f := 4) rfl ?_); refine goesL_ (some 46) rfl rfl Try.func4 (by kernel_rfl) rfl #[.slice A0 l0.length c0] rfl zM ?_; (with_reducible refine (laws_big.calls _ _ l0 false _ ?side1 ?side2 F_a2.out).mono ?_); (case side1 => exact (Kd.C_below HR0.out (zB HB))); (case side2 => exact HC0.out); rintro e w' ⟨rfl, ⟨nd1, rfl⟩⟩; refine ⟨_, rfl, ?_⟩) | ((with_reducible refine gate_callee (f := 5) rfl ?_); refine goesL_ (some 48) rfl rfl Try.func5 (by kernel_rfl) rfl #[.slice A0 l0.length c0] rfl zM ?_; (with_reducible refine (spec_DrawMinimalSum.calls k _ _ l0 n wd _ ?side1 ?side2 F_d1.out).mono ?_); (case side1 => exact (Kd.C_below HR0.out (zB HB))); (case side2 => exact HC0.out); rintro e wk2 ⟨rfl, hb⟩; refine ⟨_, rfl, ?_⟩; replace HB := zA (below_step (zB HB) hb); (try clear hb)) | ((with_reducible refine gate_dst (N := 3) rfl ?_); refine box_event ?hg (N := 3) ?hd (cs := #[.int .i64 0, .int .i64 0]) (t := 25) ?hr ?_; (case hd => rfl); (case hg => rfl); (case hr => exact zH); intro gbF hg wk3 hbox hb; have BKF := zA (hbox); have GEF := zg HB hg; replace HB := zA (below_step (zB HB) hb); clear hb hbox hg; have hz3_F0 := zc0 BKF; have hz3_F1 := zc1 BKF; have hf3_F0 := blk_frozen BKF.out 0; have hf3_F1 := blk_frozen BKF.out 1) | ((with_reducible refine gate_callee (f := 6) rfl ?_); refine goesL_ (some 51) rfl rfl Try.func6 (by kernel_rfl) rfl #[.agg #[.int .i64 n, .int .i64 wd]] rfl zM ?_; (with_reducible refine (impl_MinimalSum.calls k n wd m is _ F_m1.out).mono ?_); rintro e wk4 ⟨v_, rfl, ho0, hb⟩; obtain ⟨Av, cv, rfl⟩ := Kd.R_slice ho0; refine ⟨_, rfl, ?_⟩; have HRv := zA ((Kd.R_reads' ho0).2.2); have HCv := zA ((Kd.R_reads' ho0).2.1); have HBv := zA (Below.refl wk4.heap.size wk4); replace BKF := zp BKF hb; replace HB := zA (below_step (zB1 HB GEF) hb); (try clear hb); (try clear ho0); have hz4_F0 := zc0 BKF; have hz4_F1 := zc1 BKF; have hf4_F0 := blk_frozen BKF.out 0; have hf4_F1 := blk_frozen BKF.out 1) | ((with_reducible refine gate_callee (f := 7) rfl ?_); refine goesL_ (some 56) rfl rfl Try.func7 (by kernel_rfl) rfl #[.agg #[.int .i64 n, .int .i64 wd]] rfl zM ?_; (with_reducible refine (spec_MinimalSum.calls k n wd m is _ F_m2.out).mono ?_); rintro e wk5 ⟨v_, rfl, ho0, hb⟩; obtain ⟨Am, cm, rfl⟩ := Kd.R_slice ho0; refine ⟨_, rfl, ?_⟩; have HRm := zA ((Kd.R_reads' ho0).2.2); have HCm := zA ((Kd.R_reads' ho0).2.1); have HBm := zA (Below.refl wk5.heap.size wk5); replace BKF := zb BKF hb; replace HB := zA (below_step (zB HB) hb); replace HBv := zA (below_step (zB HBv) hb); (try clear hb); (try clear ho0)))
 (try simp only [Act.put, List.setIfInBounds_toArray, List.set_cons_zero, List.set_cons_succ])
 go_cut [67] (fun v67 wc => v67 = .bool false ∧ Aside0 (Kd.C k33 wc Am m.length m) ∧ Aside0 (wc.heap[gbF]? = some (.cells #[.int .i64 n, .int .i64 wd] 25 (0, 0))) ∧ Aside0 (Below w.heap.size w wc))
 case first =>
  as_aux_lemma =>
   have X1 := zA (Kd.C_below HRv.out HBv.out)
   have X2 := zA (Kd.C_below HRm.out HBm.out)
   have c0b : (is != is) = false := by cases is <;> rfl
   (first | rw [c0b] | (simp only [i64_w, i32_w]; rw [c0b]) | skip)
   go_wp2_with (first | (go_at_call 8; (with_reducible refine (laws_sameTerms.calls k _ _ m _ _ m true _ ?side1 ?side2 ?side3 ?side4 F_sm.out).mono ?_); (case side1 => exact zC X1.out); (case side2 => exact HCv.out); (case side3 => exact zC X2.out); (case side4 => exact HCm.out); rintro e w' ⟨rfl, ⟨nd, rfl⟩⟩))
   go_meet
   case rel => exact ⟨zS, ⟨by (with_reducible repeat (first | refine Kd.C_alloc ?_ _ | refine Kd.C_drewN ?_ _ | refine Kd.C_drew ?_)); exact X2.out⟩, ⟨zD BKF⟩, ⟨zB HB⟩⟩
 case rest =>
  as_aux_lemma =>
   obtain ⟨rfl, HRm, BKF, HB⟩ := hcut
   have HBm := zA (Below.refl wc.heap.size wc)
   clear HRv HBv HCv
   have hz20_F0 := zc0 BKF
   have hz20_F1 := zc1 BKF
   have hf20_F0 := blk_frozen BKF.out 0
   have hf20_F1 := blk_frozen BKF.out 1
   go_upto_region 12 with (first | ((with_reducible refine gate_callee (f := 9) rfl ?_); refine goesL_ (some 70) rfl rfl Try.func9 (by kernel_rfl) rfl #[.agg #[.int .i64 n, .int .i64 wd]] rfl zM ?_; (with_reducible refine (impl_PrimesOf.calls k n wd q pr _ F_p1.out).mono ?_); rintro e wk21 ⟨v_, rfl, ho0, hb⟩; obtain ⟨Av, cv, rfl⟩ := Kd.R_slice ho0; refine ⟨_, rfl, ?_⟩; have HRv := zA ((Kd.R_reads' ho0).2.2); have HCv := zA ((Kd.R_reads' ho0).2.1); have HBv := zA (Below.refl wk21.heap.size wk21); replace BKF := zb BKF hb; replace HB := zA (below_step (zB HB) hb); replace HBm := zA (below_step (zB HBm) hb); (try clear hb); (try clear ho0); have hz21_F0 := zc0 BKF; have hz21_F1 := zc1 BKF; have hf21_F0 := blk_frozen BKF.out 0; have hf21_F1 := blk_frozen BKF.out 1) | ((with_reducible refine gate_callee (f := 10) rfl ?_); refine goesL_ (some 75) rfl rfl Try.func10 (by kernel_rfl) rfl #[.agg #[.int .i64 n, .int .i64 wd]] rfl zM ?_; (with_reducible refine (spec_PrimesOf.calls k n wd q pr _ F_p2.out).mono ?_); rintro e wk22 ⟨v_, rfl, ho0, hb⟩; obtain ⟨Aq, cq, rfl⟩ := Kd.R_slice ho0; refine ⟨_, rfl, ?_⟩; have HRq := zA ((Kd.R_reads' ho0).2.2); have HCq := zA ((Kd.R_reads' ho0).2.1); have HBq := zA (Below.refl wk22.heap.size wk22); replace BKF := zb BKF hb; replace HB := zA (below_step (zB HB) hb); replace HBm := zA (below_step (zB HBm) hb); replace HBv := zA (below_step (zB HBv) hb); (try clear hb); (try clear ho0); have hz22_F0 := zc0 BKF; have hz22_F1 := zc1 BKF; have hf22_F0 := blk_frozen BKF.out 0; have hf22_F1 := blk_frozen BKF.out 1) | ((with_reducible refine gate_callee (f := 11) rfl ?_); refine goesL_ (some 80) rfl rfl Try.func11 (by kernel_rfl) rfl #[.agg #[.int .i64 n, .int .i64 wd]] rfl zM ?_; (with_reducible refine (impl_EssentialPrimes.calls k n wd d es _ F_q1.out).mono ?_); rintro e wk23 ⟨v_, rfl, ho0, hb⟩; obtain ⟨Au, cu, rfl⟩ := Kd.R_slice ho0; refine ⟨_, rfl, ?_⟩; have HRu := zA ((Kd.R_reads' ho0).2.2); have HCu := zA ((Kd.R_reads' ho0).2.1); have HBu := zA (Below.refl wk23.heap.size wk23); replace BKF := zb BKF hb; replace HB := zA (below_step (zB HB) hb); replace HBm := zA (below_step (zB HBm) hb); replace HBv := zA (below_step (zB HBv) hb); replace HBq := zA (below_step (zB HBq) hb); (try clear hb); (try clear ho0); have hz23_F0 := zc0 BKF; have hz23_F1 := zc1 BKF; have hf23_F0 := blk_frozen BKF.out 0; have hf23_F1 := blk_frozen BKF.out 1) | ((with_reducible refine gate_callee (f := 12) rfl ?_); refine goesL_ (some 85) rfl rfl Try.func12 (by kernel_rfl) rfl #[.agg #[.int .i64 n, .int .i64 wd]] rfl zM ?_; (with_reducible refine (spec_EssentialPrimes.calls k n wd d es _ F_q2.out).mono ?_); rintro e wk24 ⟨v_, rfl, ho0, hb⟩; obtain ⟨Ad, cd, rfl⟩ := Kd.R_slice ho0; refine ⟨_, rfl, ?_⟩; have HRd := zA ((Kd.R_reads' ho0).2.2); have HCd := zA ((Kd.R_reads' ho0).2.1); have HBd := zA (Below.refl wk24.heap.size wk24); replace BKF := zb BKF hb; replace HB := zA (below_step (zB HB) hb); replace HBm := zA (below_step (zB HBm) hb); replace HBv := zA (below_step (zB HBv) hb); replace HBq := zA (below_step (zB HBq) hb); replace HBu := zA (below_step (zB HBu) hb); (try clear hb); (try clear ho0)))
   (try simp only [Act.put, List.setIfInBounds_toArray, List.set_cons_zero, List.set_cons_succ])
   go_cut [107] (fun v107 wc => v107 = .bool false ∧ Aside0 (Kd.C k33 wc Am m.length m) ∧ Aside0 (Kd.C k33 wc Aq q.length q) ∧ Aside0 (Kd.C k33 wc Ad d.length d) ∧ Aside0 (wc.heap[gbF]? = some (.cells #[.int .i64 n, .int .i64 wd] 25 (0, 0))) ∧ Aside0 (Below w.heap.size w wc))
   case first =>
    as_aux_lemma =>
     have X0 := zA (Kd.C_below HRm.out HBm.out)
     have X1 := zA (Kd.C_below HRv.out HBv.out)
     have X2 := zA (Kd.C_below HRq.out HBq.out)
     have X3 := zA (Kd.C_below HRu.out HBu.out)
     have X4 := zA (Kd.C_below HRd.out HBd.out)
     have c0b : (pr != pr) = false := by cases pr <;> rfl
     have c1b : (es != es) = false := by cases es <;> rfl
     (first | rw [c0b] | (simp only [i64_w, i32_w]; rw [c0b]) | skip)
     go_wp2_with (first | (go_at_call 8; (with_reducible refine (laws_sameTerms.calls k _ _ q _ _ q true _ ?side1 ?side2 ?side3 ?side4 F_sq.out).mono ?_); (case side1 => exact zC X1.out); (case side2 => exact HCv.out); (case side3 => exact zC X2.out); (case side4 => exact HCq.out); rintro e w' ⟨rfl, ⟨nd, rfl⟩⟩) | (go_at_call 8; (with_reducible refine (laws_sameTerms.calls k _ _ d _ _ d true _ ?side1 ?side2 ?side3 ?side4 F_sd.out).mono ?_); (case side1 => exact zC X3.out); (case side2 => exact HCu.out); (case side3 => exact zC X4.out); (case side4 => exact HCd.out); rintro e w' ⟨rfl, ⟨nd, rfl⟩⟩))
     go_meet
     case rel => exact ⟨zS, ⟨by (with_reducible repeat (first | refine Kd.C_alloc ?_ _ | refine Kd.C_drewN ?_ _ | refine Kd.C_drew ?_)); exact X0.out⟩, ⟨by (with_reducible repeat (first | refine Kd.C_alloc ?_ _ | refine Kd.C_drewN ?_ _ | refine Kd.C_drew ?_)); exact X2.out⟩, ⟨by (with_reducible repeat (first | refine Kd.C_alloc ?_ _ | refine Kd.C_drewN ?_ _ | refine Kd.C_drew ?_)); exact X4.out⟩, ⟨zD BKF⟩, ⟨zB HB⟩⟩
   case rest =>
    as_aux_lemma =>
     obtain ⟨rfl, HRm, HRq, HRd, BKF, HB⟩ := hcut
     clear HRv HBv HCv HRu HBu HCu HBm HBq HBd
     go_wp2
     go_loopg [16] q.length (fun kq v16 w' => ∃ (i : Int), v16 = .int .i64 i ∧ Aside0 (0 ≤ i ∧ i + (kq : Int) = (q.length : Int)) ∧ Aside0 (Kd.C k33 w' Am m.length m) ∧ Aside0 (Kd.C k33 w' Aq q.length q) ∧ Aside0 (Kd.C k33 w' Ad d.length d) ∧ Aside0 (w'.heap[gbF]? = some (.cells #[.int .i64 n, .int .i64 wd] 25 (0, 0))) ∧ Aside0 (Below w.heap.size w w'))
     case atStart => exact ⟨0, zS, ⟨by omega⟩, ⟨by (with_reducible repeat (first | refine Kd.C_alloc ?_ _ | refine Kd.C_drewN ?_ _ | refine Kd.C_drew ?_)); exact HRm.out⟩, ⟨by (with_reducible repeat (first | refine Kd.C_alloc ?_ _ | refine Kd.C_drewN ?_ _ | refine Kd.C_drew ?_)); exact HRq.out⟩, ⟨by (with_reducible repeat (first | refine Kd.C_alloc ?_ _ | refine Kd.C_drewN ?_ _ | refine Kd.C_drew ?_)); exact HRd.out⟩, ⟨zD BKF⟩, ⟨zB HB⟩⟩
     case round =>
      as_aux_lemma =>
       obtain ⟨i, rfl, HI, HRm, HRq, HRd, BKF, HB⟩ := hrel
       obtain ⟨i0, ij⟩ := HI.out
       clear HI
       have c47b0 : decide (0 ≤ i) = true := decide_eq_true i0
       by_cases c46 : i < (q.length : Int)
       case pos =>
        as_aux_lemma =>
         have c46b0 : decide (i < (q.length : Int)) = true := decide_eq_true c46
         obtain ⟨g', rfl⟩ : ∃ x, gk = x + 1 := ⟨gk - 1, by omega⟩
         obtain ⟨ad, ead, hx0, hx1⟩ := at_T33 HRq.out i i0 c46
         cases ead
         have hmem := rd_in i0 c46
         have LP1 := zA (F_lp.out _ hmem).1
         have LP2 := zA (F_lp.out _ hmem).2
         clear hmem hx0 hx1
         have p1_ := eq_true i0
         have p2_ := eq_true c46
         have hkS : Aside0 (∀ W : World, W.heap[gbF]? = some (.cells #[.int .i64 n, .int .i64 wd] 25 (0, 0)) → Kd.C k33 W Am m.length m → Kd.C k33 W (some ad) q.length q → Kd.C k33 W Ad d.length d → Below w.heap.size w W → (fun w' => w'.cell? ⟨gbF, 0, none⟩ = some (.int .i64 n) ∧ w'.cell? ⟨gbF, 1, none⟩ = some (.int .i64 wd) ∧ w'.cell? (ad.add ((i).toNat * 2)) = some (.int .i64 ((rd_T33 q i).f0)) ∧ w'.cell? ⟨(ad.add ((i).toNat * 2)).block, (ad.add ((i).toNat * 2)).off + 1, none⟩ = some (.int .i64 ((rd_T33 q i).f1)) ∧ Aside0 (Kd.C k33 w' Am m.length m) ∧ Aside0 (Kd.C k33 w' (some ad) q.length q) ∧ Aside0 (Kd.C k33 w' Ad d.length d) ∧ Aside0 (w'.heap[gbF]? = some (.cells #[.int .i64 n, .int .i64 wd] 25 (0, 0))) ∧ Aside0 (Below w.heap.size w w')) W) := ⟨fun W hF h1 h2 h3 hb => by
          obtain ⟨ad', e', y0, y1⟩ := at_T33 h2 i i0 c46
          cases e'
          exact ⟨(blk_cell hF 0).trans rfl, (blk_cell hF 1).trans rfl, y0, y1, ⟨h1⟩, ⟨h2⟩, ⟨h3⟩, ⟨hF⟩, ⟨hb⟩⟩⟩
         try go_wp2
         go_region_held3 (fun w' => w'.cell? ⟨gbF, 0, none⟩ = some (.int .i64 n) ∧ w'.cell? ⟨gbF, 1, none⟩ = some (.int .i64 wd) ∧ w'.cell? (ad.add ((i).toNat * 2)) = some (.int .i64 ((rd_T33 q i).f0)) ∧ w'.cell? ⟨(ad.add ((i).toNat * 2)).block, (ad.add ((i).toNat * 2)).off + 1, none⟩ = some (.int .i64 ((rd_T33 q i).f1)) ∧ Aside0 (Kd.C k33 w' Am m.length m) ∧ Aside0 (Kd.C k33 w' (some ad) q.length q) ∧ Aside0 (Kd.C k33 w' Ad d.length d) ∧ Aside0 (w'.heap[gbF]? = some (.cells #[.int .i64 n, .int .i64 wd] 25 (0, 0))) ∧ Aside0 (Below w.heap.size w w'))
          (first | exact hkS.out _ (blk_drew BKF.out) (Kd.C_drew HRm.out) (Kd.C_drew HRq.out) (Kd.C_drew HRd.out) (below_drew1 HB.out) | (go_split_ands; exact hkS.out _ (blk_below (Aside0.out (by assumption)) hb4) (Kd.C_below (Aside0.out (by assumption)) hb4) (Kd.C_below (Aside0.out (by assumption)) hb4) (Kd.C_below (Aside0.out (by assumption)) hb4) (below_step (Aside0.out (by assumption)) hb4)))
          (first | (go_at_call 13; (with_reducible refine (impl_IsPrimeTerm.calls k n wd (rd_T33 q i).f0 (rd_T33 q i).f1 true _ LP1.out).mono ?_); rintro e w4 ⟨rfl, hb4⟩) | (go_at_call 14; (with_reducible refine (impl_IsImplicant.calls n wd (rd_T33 q i).f0 (rd_T33 q i).f1 true _ LP2.out).mono ?_); rintro e w4 ⟨rfl, hb4⟩))
         all_goals (go_wp2_with (fail))
         all_goals (go_roundg g')
         all_goals first | (case measure => omega) | (case rel => exact ⟨_, zS, ⟨by first | omega | (rw [w64 (by omega) (by omega)]; omega)⟩, zA (by first | exact Aside0.out (by assumption) | (go_split_ands; exact Aside0.out (by assumption))), zA (by first | exact Aside0.out (by assumption) | (go_split_ands; exact Aside0.out (by assumption))), zA (by first | exact Aside0.out (by assumption) | (go_split_ands; exact Aside0.out (by assumption))), zA (by first | exact Aside0.out (by assumption) | (go_split_ands; exact Aside0.out (by assumption))), zA (by first | exact Aside0.out (by assumption) | (go_split_ands; exact Aside0.out (by assumption)))⟩)
       case neg =>
        as_aux_lemma =>
         have c46b0 : decide (i < (q.length : Int)) = false := decide_eq_false c46
         go_upto_if 130 with (fail)
         go_cut [] (fun wc => Aside0 (Below w.heap.size w wc))
         case first =>
          as_aux_lemma =>
           rcases F_hy.out with e | ⟨e, y1, y2, y3, y4⟩
           ·subst e
            go_wp2
            go_meet
            case rel => exact ⟨zB HB⟩
           ·subst e
            have Y1 := zA y1
            have Y2 := zA y2
            have Y4 := zA y4
            have y3b : decide ((m.length : Int) < (d.length : Int)) = false := decide_eq_false (by omega)
            have y3c : ¬ ((m.length : Int) < (d.length : Int)) := by omega
            clear y1 y2 y4
            have HBR := zA (Below.refl wr.heap.size wr)
            have hz40_F0 := zc0 BKF
            have hz40_F1 := zc1 BKF
            have hf40_F0 := blk_frozen BKF.out 0
            have hf40_F1 := blk_frozen BKF.out 1
            go_upto_region 22 with (first | ((with_reducible refine gate_callee (f := 15) rfl ?_); refine goesL_ (some 135) rfl rfl Try.func15 (by kernel_rfl) rfl #[.int .i64 n, .slice Am m.length cm] rfl zM ?_; (with_reducible refine (impl_TableOfTerms.calls n _ _ m n wd true _ ?side1 ?side2 Y1.out).mono ?_); (case side1 => exact Kd.C_below HRm.out (zB HBR)); (case side2 => exact HCm.out); rintro e wk41 ⟨rfl, hb⟩; refine ⟨_, rfl, ?_⟩; replace BKF := zb BKF hb; replace HB := zA (below_step (zB HB) hb); replace HBR := zA (below_step (zB HBR) hb); (try clear hb)) | ((with_reducible refine gate_dst (N := 17) rfl ?_); refine box_event ?hg (N := 17) ?hd (cs := #[.int .i64 0, .int .i64 0]) (t := 25) ?hr ?_; (case hd => rfl); (case hg => rfl); (case hr => exact zH); intro gbTa hg wk42 hbox hb; have BKTa := zA (hbox); have GETa := zg HB hg; have GRTa := zg HBR hg; have NBF_Ta := zn BKF hg; replace BKF := zb BKF hb; replace HB := zA (below_step (zB HB) hb); replace HBR := zA (below_step (zB HBR) hb); clear hb hbox hg; have NBTa_F := zA (Ne.symm NBF_Ta.out); have hnb42_F := NBTa_F.out; have hnc42_F := NBF_Ta.out; have hz42_F0 := zc0 BKF; have hz42_F1 := zc1 BKF; have hz42_Ta0 := zc0 BKTa; have hz42_Ta1 := zc1 BKTa; have hf42_Ta0 := blk_frozen BKTa.out 0; have hf42_Ta1 := blk_frozen BKTa.out 1) | ((with_reducible refine gate_callee (f := 15) rfl ?_); refine goesL_ (some 142) rfl rfl Try.func15 (by kernel_rfl) rfl #[.int .i64 n, .slice Aq q.length cq] rfl zM ?_; (with_reducible refine (impl_TableOfTerms.calls n _ _ q n wd true _ ?side1 ?side2 Y2.out).mono ?_); (case side1 => exact Kd.C_below HRq.out (zB1 HBR GRTa)); (case side2 => exact HCq.out); rintro e wk43 ⟨rfl, hb⟩; refine ⟨_, rfl, ?_⟩; replace BKF := zf BKF NBF_Ta hb; replace BKTa := zp BKTa hb; replace HB := zA (below_step (zB1 HB GETa) hb); replace HBR := zA (below_step (zB1 HBR GRTa) hb); (try clear hb)) | ((with_reducible refine gate_dst (N := 19) rfl ?_); refine box_event ?hg (N := 19) ?hd (cs := #[.int .i64 0, .int .i64 0]) (t := 25) ?hr ?_; (case hd => rfl); (case hg => rfl); (case hr => exact zH); intro gbTb hg wk44 hbox hb; have BKTb := zA (hbox); have GETb := zg HB hg; have GRTb := zg HBR hg; have NBF_Tb := zn BKF hg; have NBTa_Tb := zn BKTa hg; replace BKF := zb BKF hb; replace BKTa := zb BKTa hb; replace HB := zA (below_step (zB HB) hb); replace HBR := zA (below_step (zB HBR) hb); clear hb hbox hg; have NBTb_F := zA (Ne.symm NBF_Tb.out); have hnb44_F := NBTb_F.out; have hnc44_F := NBF_Tb.out; have NBTb_Ta := zA (Ne.symm NBTa_Tb.out); have hnb44_Ta := NBTb_Ta.out; have hnc44_Ta := NBTa_Tb.out; have hz44_F0 := zc0 BKF; have hz44_F1 := zc1 BKF; have hz44_Ta0 := zc0 BKTa; have hz44_Ta1 := zc1 BKTa; have hz44_Tb0 := zc0 BKTb; have hz44_Tb1 := zc1 BKTb; have hf44_Tb0 := blk_frozen BKTb.out 0; have hf44_Tb1 := blk_frozen BKTb.out 1))
            (try simp only [Act.put, List.setIfInBounds_toArray, List.set_cons_zero, List.set_cons_succ])
            go_cut [167] (fun v167 wc => v167 = .bool false ∧ Aside0 (Kd.C k33 wc Am m.length m) ∧ Aside0 (Kd.C k33 wc Ad d.length d) ∧ Aside0 (Below w.heap.size w wc))
            case first =>
             as_aux_lemma =>
              have X1 := zA (show Kd.C k33 ((wk44.setCell ⟨gbTb, 0, none⟩ (.int .i64 n)).setCell ⟨gbTb, 1, none⟩ (.int .i64 wd)) Am m.length m from Kd.C_below HRm.out (zB1 HBR GRTb))
              have X2 := zA (show Kd.C k33 ((wk44.setCell ⟨gbTb, 0, none⟩ (.int .i64 n)).setCell ⟨gbTb, 1, none⟩ (.int .i64 wd)) Ad d.length d from Kd.C_below HRd.out (zB1 HBR GRTb))
              have n0_ : Aside0 (((wk44.setCell ⟨gbTb, 0, none⟩ (.int .i64 n)).setCell ⟨gbTb, 1, none⟩ (.int .i64 wd)).heap[gbF]? = some (.cells #[.int .i64 n, .int .i64 wd] 25 (0, 0))) := ⟨zF BKF NBF_Tb⟩
              have n1_ : Aside0 (((wk44.setCell ⟨gbTb, 0, none⟩ (.int .i64 n)).setCell ⟨gbTb, 1, none⟩ (.int .i64 wd)).heap[gbTa]? = some (.cells #[.int .i64 n, .int .i64 wd] 25 (0, 0))) := ⟨zF BKTa NBTa_Tb⟩
              have n2_ : Aside0 (((wk44.setCell ⟨gbTb, 0, none⟩ (.int .i64 n)).setCell ⟨gbTb, 1, none⟩ (.int .i64 wd)).heap[gbTb]? = some (.cells #[.int .i64 n, .int .i64 wd] 25 (0, 0))) := ⟨zP BKTb⟩
              have n3_ : Aside0 (Below w.heap.size w ((wk44.setCell ⟨gbTb, 0, none⟩ (.int .i64 n)).setCell ⟨gbTb, 1, none⟩ (.int .i64 wd))) := ⟨zB1 HB GETb⟩
              have n4_ : Aside0 (Below wr.heap.size wr ((wk44.setCell ⟨gbTb, 0, none⟩ (.int .i64 n)).setCell ⟨gbTb, 1, none⟩ (.int .i64 wd))) := ⟨zB1 HBR GRTb⟩
              clear BKF BKTa BKTb HB HBR
              generalize ((wk44.setCell ⟨gbTb, 0, none⟩ (.int .i64 n)).setCell ⟨gbTb, 1, none⟩ (.int .i64 wd)) = wg4 at X1 X2 n0_ n1_ n2_ n3_ n4_ ⊢
              have BKF := n0_
              have BKTa := n1_
              have BKTb := n2_
              have HB := n3_
              have HBR := n4_
              clear n0_ n1_ n2_ n3_ n4_
              have hz44_F0 := zc0 BKF
              have hz44_F1 := zc1 BKF
              have hf44_F0 := blk_frozen BKF.out 0
              have hf44_F1 := blk_frozen BKF.out 1
              have hz44_Ta0 := zc0 BKTa
              have hz44_Ta1 := zc1 BKTa
              have hf44_Ta0 := blk_frozen BKTa.out 0
              have hf44_Ta1 := blk_frozen BKTa.out 1
              have hz44_Tb0 := zc0 BKTb
              have hz44_Tb1 := zc1 BKTb
              have hf44_Tb0 := blk_frozen BKTb.out 0
              have hf44_Tb1 := blk_frozen BKTb.out 1
              go_wp2_with (fail)
              go_meet
              case rel => exact ⟨zS, ⟨by (with_reducible repeat (first | refine Kd.C_alloc ?_ _ | refine Kd.C_drewN ?_ _ | refine Kd.C_drew ?_)); exact X1.out⟩, ⟨by (with_reducible repeat (first | refine Kd.C_alloc ?_ _ | refine Kd.C_drewN ?_ _ | refine Kd.C_drew ?_)); exact X2.out⟩, ⟨zB HB⟩⟩
            case rest =>
             as_aux_lemma =>
              obtain ⟨rfl, HRm, HRd, HB⟩ := hcut
              clear HBR
              go_wp2
              go_loopg [21] d.length (fun kq v21 w' => ∃ (i : Int), v21 = .int .i64 i ∧ Aside0 (0 ≤ i ∧ i + (kq : Int) = (d.length : Int)) ∧ Aside0 (Kd.C k33 w' Am m.length m) ∧ Aside0 (Kd.C k33 w' Ad d.length d) ∧ Aside0 (Below w.heap.size w w'))
              case atStart => exact ⟨0, zS, ⟨by omega⟩, ⟨by (with_reducible repeat (first | refine Kd.C_alloc ?_ _ | refine Kd.C_drewN ?_ _ | refine Kd.C_drew ?_)); exact HRm.out⟩, ⟨by (with_reducible repeat (first | refine Kd.C_alloc ?_ _ | refine Kd.C_drewN ?_ _ | refine Kd.C_drew ?_)); exact HRd.out⟩, ⟨zB HB⟩⟩
              case round =>
               obtain ⟨i, rfl, HI, HRm, HRd, HB⟩ := hrel
               obtain ⟨j0_, jk_⟩ := HI.out
               clear HI
               have d47b0 : decide (0 ≤ i) = true := decide_eq_true j0_
               by_cases d46 : i < (d.length : Int)
               case neg =>
                have d46b0 : decide (i < (d.length : Int)) = false := decide_eq_false d46
                go_wp2
                go_meet
                case rel => exact ⟨zB HB⟩
               case pos =>
                have d46b0 : decide (i < (d.length : Int)) = true := decide_eq_true d46
                obtain ⟨g', rfl⟩ : ∃ x, gk = x + 1 := ⟨gk - 1, by omega⟩
                obtain ⟨jj, jj0, jj1, jje⟩ := rd_of (Y4.out _ (rd_in j0_ d46))
                go_wp2
                go_loopg [22, 23] m.length (fun kq v22 v23 w' => ∃ (fb : Bool) (x : Int), v22 = .bool fb ∧ v23 = .int .i64 x ∧ Aside0 (0 ≤ x ∧ x + (kq : Int) = (m.length : Int)) ∧ Aside0 (fb = true ∨ (fb = false ∧ x ≤ jj)) ∧ Aside0 (Kd.C k33 w' Am m.length m) ∧ Aside0 (Kd.C k33 w' Ad d.length d) ∧ Aside0 (Below w.heap.size w w'))
                case atStart => exact ⟨false, 0, zS, zS, ⟨by omega⟩, ⟨Or.inr ⟨rfl, jj0⟩⟩, ⟨by (with_reducible repeat (first | refine Kd.C_alloc ?_ _ | refine Kd.C_drewN ?_ _ | refine Kd.C_drew ?_)); exact HRm.out⟩, ⟨by (with_reducible repeat (first | refine Kd.C_alloc ?_ _ | refine Kd.C_drewN ?_ _ | refine Kd.C_drew ?_)); exact HRd.out⟩, ⟨zB HB⟩⟩
                case round =>
                 obtain ⟨fb, x, rfl, rfl, HX, HFB, HRm, HRd, HB⟩ := hrel
                 obtain ⟨xx0, xxk⟩ := HX.out
                 clear HX
                 have x47b0 : decide (0 ≤ x) = true := decide_eq_true xx0
                 by_cases x46 : x < (m.length : Int)
                 case neg =>
                  have x46b0 : decide (x < (m.length : Int)) = false := decide_eq_false x46
                  obtain rfl : fb = true := by
                   rcases HFB.out with h | ⟨h, h2⟩
                   ·exact h
                   ·omega
                  go_wp2
                  go_roundg g'
                  case measure => omega
                  case rel => exact ⟨_, zS, ⟨by first | omega | (rw [w64 (by omega) (by omega)]; omega)⟩, ⟨by (with_reducible repeat (first | refine Kd.C_alloc ?_ _ | refine Kd.C_drewN ?_ _ | refine Kd.C_drew ?_)); exact HRm.out⟩, ⟨by (with_reducible repeat (first | refine Kd.C_alloc ?_ _ | refine Kd.C_drewN ?_ _ | refine Kd.C_drew ?_)); exact HRd.out⟩, ⟨zB HB⟩⟩
                 case pos =>
                  have x46b0 : decide (x < (m.length : Int)) = true := decide_eq_true x46
                  obtain ⟨g2, rfl⟩ : ∃ z, gk = z + 1 := ⟨gk - 1, by omega⟩
                  have p1_ := eq_true xx0
                  have p2_ := eq_true x46
                  have p3_ := eq_true j0_
                  have p4_ := eq_true d46
                  cases fb
                  case true =>
                   try go_wp2
                   go_quiet (fail)
                   go_wp2_with (fail)
                   go_roundg g2
                   case measure => omega
                   case rel => exact ⟨true, _, zS, zS, ⟨by first | omega | (rw [w64 (by omega) (by omega)]; omega)⟩, ⟨Or.inl rfl⟩, ⟨by (with_reducible repeat (first | refine Kd.C_alloc ?_ _ | refine Kd.C_drewN ?_ _ | refine Kd.C_drew ?_)); exact HRm.out⟩, ⟨by (with_reducible repeat (first | refine Kd.C_alloc ?_ _ | refine Kd.C_drewN ?_ _ | refine Kd.C_drew ?_)); exact HRd.out⟩, ⟨zB HB⟩⟩
                  case false =>
                   have hxj : x ≤ jj := by
                    rcases HFB.out with h | ⟨h, h2⟩
                    ·cases h
                    ·exact h2
                   obtain ⟨ad, ead, hx0, hx1⟩ := at_T33 HRm.out x xx0 x46
                   cases ead
                   obtain ⟨ae, eae, hy0, hy1⟩ := at_T33 HRd.out i j0_ d46
                   cases eae
                   clear hx0 hx1 hy0 hy1
                   have hkS : Aside0 (∀ W : World, Kd.C k33 W (some ad) m.length m → Kd.C k33 W (some ae) d.length d → Below w.heap.size w W → (fun w' => w'.cell? (ad.add ((x).toNat * 2)) = some (.int .i64 ((rd_T33 m x).f0)) ∧ w'.cell? ⟨(ad.add ((x).toNat * 2)).block, (ad.add ((x).toNat * 2)).off + 1, none⟩ = some (.int .i64 ((rd_T33 m x).f1)) ∧ w'.cell? (ae.add ((i).toNat * 2)) = some (.int .i64 ((rd_T33 d i).f0)) ∧ w'.cell? ⟨(ae.add ((i).toNat * 2)).block, (ae.add ((i).toNat * 2)).off + 1, none⟩ = some (.int .i64 ((rd_T33 d i).f1)) ∧ Aside0 (Kd.C k33 w' (some ad) m.length m) ∧ Aside0 (Kd.C k33 w' (some ae) d.length d) ∧ Aside0 (Below w.heap.size w w')) W) := ⟨fun W h1 h2 hb => by
                    obtain ⟨ad', e', y0, y1⟩ := at_T33 h1 x xx0 x46
                    cases e'
                    obtain ⟨ae', e2, v0, v1⟩ := at_T33 h2 i j0_ d46
                    cases e2
                    exact ⟨y0, y1, v0, v1, ⟨h1⟩, ⟨h2⟩, ⟨hb⟩⟩⟩
                   try go_wp2
                   go_region_held3 (fun w' => w'.cell? (ad.add ((x).toNat * 2)) = some (.int .i64 ((rd_T33 m x).f0)) ∧ w'.cell? ⟨(ad.add ((x).toNat * 2)).block, (ad.add ((x).toNat * 2)).off + 1, none⟩ = some (.int .i64 ((rd_T33 m x).f1)) ∧ w'.cell? (ae.add ((i).toNat * 2)) = some (.int .i64 ((rd_T33 d i).f0)) ∧ w'.cell? ⟨(ae.add ((i).toNat * 2)).block, (ae.add ((i).toNat * 2)).off + 1, none⟩ = some (.int .i64 ((rd_T33 d i).f1)) ∧ Aside0 (Kd.C k33 w' (some ad) m.length m) ∧ Aside0 (Kd.C k33 w' (some ae) d.length d) ∧ Aside0 (Below w.heap.size w w'))
                    (exact hkS.out _ (Kd.C_drew HRm.out) (Kd.C_drew HRd.out) (below_drew1 HB.out))
                    (first | fail)
                   all_goals (go_wp2_with (fail))
                   all_goals (go_roundg g2)
                   all_goals first | (case measure => omega) | (case rel => exact ⟨((rd_T33 m x).f0 == (rd_T33 d i).f0 && ((rd_T33 m x).f1 == (rd_T33 d i).f1)), _, zS, zS, ⟨by first | omega | (rw [w64 (by omega) (by omega)]; omega)⟩, ⟨found_step hxj jje (by first | rfl | exact w64 (by omega) (by omega))⟩, zA (by first | exact Aside0.out (by assumption) | (go_split_ands; exact Aside0.out (by assumption))), zA (by first | exact Aside0.out (by assumption) | (go_split_ands; exact Aside0.out (by assumption))), zA (by first | exact Aside0.out (by assumption) | (go_split_ands; exact Aside0.out (by assumption)))⟩)
         case rest =>
          as_aux_lemma =>
           have HB := zA hcut.out
           clear hcut HRm HRq HRd BKF
           go_upto_region 37 with (first | ((with_reducible refine gate_callee (f := 16) rfl ?_); refine goesL_ (some 196) rfl rfl Try.func16 (by kernel_rfl) rfl #[.slice A0 l0.length c0] rfl zM ?_; (with_reducible refine (spec_DrawFormatTerm.calls k _ _ l0 fn t0 t1 _ ?side1 ?side2 F_d2.out).mono ?_); (case side1 => exact (Kd.C_below HR0.out (zB HB))); (case side2 => exact HC0.out); rintro e wk61 ⟨rfl, hb⟩; refine ⟨_, rfl, ?_⟩; replace HB := zA (below_step (zB HB) hb); (try clear hb)) | ((with_reducible refine gate_dst (N := 25) rfl ?_); refine box_event ?hg (N := 25) ?hd (cs := #[.int .i64 0, .int .i64 0]) (t := 33) ?hr ?_; (case hd => rfl); (case hg => rfl); (case hr => exact zH); intro gbQ hg wk62 hbox hb; have BKQ := zA (hbox); have GEQ := zg HB hg; replace HB := zA (below_step (zB HB) hb); clear hb hbox hg; have hz62_Q0 := zc0 BKQ; have hz62_Q1 := zc1 BKQ; have hf62_Q0 := blk_frozen BKQ.out 0; have hf62_Q1 := blk_frozen BKQ.out 1) | ((with_reducible refine gate_callee (f := 17) rfl ?_); refine goesL_ (some 201) rfl rfl Try.func17 (by kernel_rfl) rfl #[.int .i64 fn, .agg #[.int .i64 t0, .int .i64 t1]] rfl zM ?_; (with_reducible refine (impl_FormatTerm.calls k fn t0 t1 s _ F_fi.out).mono ?_); rintro e wk63 ⟨rfl, hb⟩; refine ⟨_, rfl, ?_⟩; replace BKQ := zp BKQ hb; replace HB := zA (below_step (zB1 HB GEQ) hb); (try clear hb)) | ((with_reducible refine gate_callee (f := 18) rfl ?_); refine goesL_ (some 205) rfl rfl Try.func18 (by kernel_rfl) rfl #[.int .i64 fn, .string s] rfl zM ?_; (with_reducible refine (impl_ParseTerm.calls k fn s x0 x1 rdd _ F_pi.out).mono ?_); rintro e wk64 ⟨rfl, hb⟩; refine ⟨_, rfl, ?_⟩; replace BKQ := zb BKQ hb; replace HB := zA (below_step (zB HB) hb); (try clear hb)) | ((with_reducible refine gate_dst (N := 27) rfl ?_); refine box_event ?hg (N := 27) ?hd (cs := #[.int .i64 0, .int .i64 0]) (t := 33) ?hr ?_; (case hd => rfl); (case hg => rfl); (case hr => exact zH); intro gbX hg wk65 hbox hb; have BKX := zA (hbox); have GEX := zg HB hg; have NBQ_X := zn BKQ hg; replace BKQ := zb BKQ hb; replace HB := zA (below_step (zB HB) hb); clear hb hbox hg; have NBX_Q := zA (Ne.symm NBQ_X.out); have hnb65_Q := NBX_Q.out; have hnc65_Q := NBQ_X.out; have hz65_Q0 := zc0 BKQ; have hz65_Q1 := zc1 BKQ; have hz65_X0 := zc0 BKX; have hz65_X1 := zc1 BKX; have hf65_X0 := blk_frozen BKX.out 0; have hf65_X1 := blk_frozen BKX.out 1))
           (try simp only [Act.put, List.setIfInBounds_toArray, List.set_cons_zero, List.set_cons_succ])
           go_cut [234] (fun v234 wc => v234 = .bool false ∧ Aside0 (Below w.heap.size w wc))
           case first =>
            as_aux_lemma =>
             have n0_ : Aside0 (((wk65.setCell ⟨gbX, 0, none⟩ (.int .i64 x0)).setCell ⟨gbX, 1, none⟩ (.int .i64 x1)).heap[gbQ]? = some (.cells #[.int .i64 t0, .int .i64 t1] 33 (0, 0))) := ⟨zF BKQ NBQ_X⟩
             have n1_ : Aside0 (((wk65.setCell ⟨gbX, 0, none⟩ (.int .i64 x0)).setCell ⟨gbX, 1, none⟩ (.int .i64 x1)).heap[gbX]? = some (.cells #[.int .i64 x0, .int .i64 x1] 33 (0, 0))) := ⟨zP BKX⟩
             have n2_ : Aside0 (Below w.heap.size w ((wk65.setCell ⟨gbX, 0, none⟩ (.int .i64 x0)).setCell ⟨gbX, 1, none⟩ (.int .i64 x1))) := ⟨zB1 HB GEX⟩
             clear BKQ BKX HB
             generalize ((wk65.setCell ⟨gbX, 0, none⟩ (.int .i64 x0)).setCell ⟨gbX, 1, none⟩ (.int .i64 x1)) = wg5 at n0_ n1_ n2_ ⊢
             have BKQ := n0_
             have BKX := n1_
             have HB := n2_
             clear n0_ n1_ n2_
             have hz65_Q0 := zc0 BKQ
             have hz65_Q1 := zc1 BKQ
             have hf65_Q0 := blk_frozen BKQ.out 0
             have hf65_Q1 := blk_frozen BKQ.out 1
             have hz65_X0 := zc0 BKX
             have hz65_X1 := zc1 BKX
             have hf65_X0 := blk_frozen BKX.out 0
             have hf65_X1 := blk_frozen BKX.out 1
             have s1b : (s.toList == s.toList) = true := beq_self_eq_true _
             have s2b : (s.toList != s.toList) = false := bne_self_eq_false _
             have s3b : (rdd != rdd) = false := by cases rdd <;> rfl
             (first | rw [s1b] | (simp only [i64_w, i32_w]; rw [s1b]) | skip)
             rcases F_xt.out with e | ⟨e, ea, eb⟩
             ·subst e
              go_wp2_with (first | ((with_reducible refine gate_callee (f := 19) rfl ?_); refine goesL_ (some 211) rfl rfl Try.func19 (by kernel_rfl) rfl #[.int .i64 fn, .agg #[.int .i64 t0, .int .i64 t1]] rfl zM ?_; (with_reducible refine (spec_FormatTerm.calls k fn t0 t1 s _ F_fs.out).mono ?_); rintro e wk71 ⟨rfl, hb⟩; refine ⟨_, rfl, ?_⟩; replace BKQ := zb BKQ hb; replace BKX := zb BKX hb; replace HB := zA (below_step (zB HB) hb); (try clear hb); have hz71_Q0 := zc0 BKQ; have hz71_Q1 := zc1 BKQ; have hf71_Q0 := blk_frozen BKQ.out 0; have hf71_Q1 := blk_frozen BKQ.out 1; have hz71_X0 := zc0 BKX; have hz71_X1 := zc1 BKX; have hf71_X0 := blk_frozen BKX.out 0; have hf71_X1 := blk_frozen BKX.out 1) | (go_at_call 20; (with_reducible refine (spec_IsTerm.calls fn t0 t1 _ _ F_it.out).mono ?_); rintro e wk72 ⟨rfl, hb⟩; replace BKQ := zb BKQ hb; replace BKX := zb BKX hb; replace HB := zA (below_step (zB HB) hb); (try clear hb); have hz72_Q0 := zc0 BKQ; have hz72_Q1 := zc1 BKQ; have hf72_Q0 := blk_frozen BKQ.out 0; have hf72_Q1 := blk_frozen BKQ.out 1; have hz72_X0 := zc0 BKX; have hz72_X1 := zc1 BKX; have hf72_X0 := blk_frozen BKX.out 0; have hf72_X1 := blk_frozen BKX.out 1) | (go_at_call 21; (with_reducible refine (impl_IsTerm.calls fn t0 t1 _ _ F_ii.out).mono ?_); rintro e wk73 ⟨rfl, hb⟩; replace BKQ := zb BKQ hb; replace BKX := zb BKX hb; replace HB := zA (below_step (zB HB) hb); (try clear hb); have hz73_Q0 := zc0 BKQ; have hz73_Q1 := zc1 BKQ; have hf73_Q0 := blk_frozen BKQ.out 0; have hf73_Q1 := blk_frozen BKQ.out 1; have hz73_X0 := zc0 BKX; have hz73_X1 := zc1 BKX; have hf73_X0 := blk_frozen BKX.out 0; have hf73_X1 := blk_frozen BKX.out 1))
              go_meet
              case rel => exact ⟨zS, ⟨zB HB⟩⟩
             ·replace ea := ea.symm
              replace eb := eb.symm
              subst e ea eb
              go_wp2_with (first | ((with_reducible refine gate_callee (f := 19) rfl ?_); refine goesL_ (some 211) rfl rfl Try.func19 (by kernel_rfl) rfl #[.int .i64 fn, .agg #[.int .i64 t0, .int .i64 t1]] rfl zM ?_; (with_reducible refine (spec_FormatTerm.calls k fn t0 t1 s _ F_fs.out).mono ?_); rintro e wk71 ⟨rfl, hb⟩; refine ⟨_, rfl, ?_⟩; replace BKQ := zb BKQ hb; replace BKX := zb BKX hb; replace HB := zA (below_step (zB HB) hb); (try clear hb); have hz71_Q0 := zc0 BKQ; have hz71_Q1 := zc1 BKQ; have hf71_Q0 := blk_frozen BKQ.out 0; have hf71_Q1 := blk_frozen BKQ.out 1; have hz71_X0 := zc0 BKX; have hz71_X1 := zc1 BKX; have hf71_X0 := blk_frozen BKX.out 0; have hf71_X1 := blk_frozen BKX.out 1) | (go_at_call 20; (with_reducible refine (spec_IsTerm.calls fn t0 t1 _ _ F_it.out).mono ?_); rintro e wk72 ⟨rfl, hb⟩; replace BKQ := zb BKQ hb; replace BKX := zb BKX hb; replace HB := zA (below_step (zB HB) hb); (try clear hb); have hz72_Q0 := zc0 BKQ; have hz72_Q1 := zc1 BKQ; have hf72_Q0 := blk_frozen BKQ.out 0; have hf72_Q1 := blk_frozen BKQ.out 1; have hz72_X0 := zc0 BKX; have hz72_X1 := zc1 BKX; have hf72_X0 := blk_frozen BKX.out 0; have hf72_X1 := blk_frozen BKX.out 1) | (go_at_call 21; (with_reducible refine (impl_IsTerm.calls fn t0 t1 _ _ F_ii.out).mono ?_); rintro e wk73 ⟨rfl, hb⟩; replace BKQ := zb BKQ hb; replace BKX := zb BKX hb; replace HB := zA (below_step (zB HB) hb); (try clear hb); have hz73_Q0 := zc0 BKQ; have hz73_Q1 := zc1 BKQ; have hf73_Q0 := blk_frozen BKQ.out 0; have hf73_Q1 := blk_frozen BKQ.out 1; have hz73_X0 := zc0 BKX; have hz73_X1 := zc1 BKX; have hf73_X0 := blk_frozen BKX.out 0; have hf73_X1 := blk_frozen BKX.out 1))
              go_meet
              case rel => exact ⟨zS, ⟨zB HB⟩⟩
           case rest =>
            as_aux_lemma =>
             obtain ⟨rfl, HB⟩ := hcut
             as_aux_lemma =>
              go_wp2_with (first | ((with_reducible refine gate_callee (f := 22) rfl ?_); refine goesL_ (some 237) rfl rfl Try.func22 (by kernel_rfl) rfl #[.slice A0 l0.length c0] rfl zM ?_; (with_reducible refine (spec_DrawParseTerm.calls k _ _ l0 an sb _ ?side1 ?side2 F_d3.out).mono ?_); (case side1 => exact (Kd.C_below HR0.out (zB HB))); (case side2 => exact HC0.out); rintro e wk81 ⟨rfl, hb⟩; refine ⟨_, rfl, ?_⟩; replace HB := zA (below_step (zB HB) hb); (try clear hb)) | ((with_reducible refine gate_callee (f := 18) rfl ?_); refine goesL_ (some 243) rfl rfl Try.func18 (by kernel_rfl) rfl #[.int .i64 an, .string sb] rfl zM ?_; (with_reducible refine (impl_ParseTerm.calls k an sb e0 e1 five _ F_r1.out).mono ?_); rintro e wk82 ⟨rfl, hb⟩; refine ⟨_, rfl, ?_⟩; replace HB := zA (below_step (zB HB) hb); (try clear hb)) | ((with_reducible refine gate_dst (N := 31) rfl ?_); refine box_event ?hg (N := 31) ?hd (cs := #[.int .i64 0, .int .i64 0]) (t := 33) ?hr ?_; (case hd => rfl); (case hg => rfl); (case hr => exact zH); intro gbCa hg wk83 hbox hb; have BKCa := zA (hbox); have GECa := zg HB hg; replace HB := zA (below_step (zB HB) hb); clear hb hbox hg; have hz83_Ca0 := zc0 BKCa; have hz83_Ca1 := zc1 BKCa; have hf83_Ca0 := blk_frozen BKCa.out 0; have hf83_Ca1 := blk_frozen BKCa.out 1) | ((with_reducible refine gate_callee (f := 23) rfl ?_); refine goesL_ (some 249) rfl rfl Try.func23 (by kernel_rfl) rfl #[.int .i64 an, .string sb] rfl zM ?_; (with_reducible refine (spec_ParseTerm.calls k an sb e0 e1 five _ F_r2.out).mono ?_); rintro e wk84 ⟨rfl, hb⟩; refine ⟨_, rfl, ?_⟩; replace BKCa := zp BKCa hb; replace HB := zA (below_step (zB1 HB GECa) hb); (try clear hb)) | ((with_reducible refine gate_dst (N := 33) rfl ?_); refine box_event ?hg (N := 33) ?hd (cs := #[.int .i64 0, .int .i64 0]) (t := 33) ?hr ?_; (case hd => rfl); (case hg => rfl); (case hr => exact zH); intro gbCb hg wk85 hbox hb; have BKCb := zA (hbox); have GECb := zg HB hg; have NBCa_Cb := zn BKCa hg; replace BKCa := zb BKCa hb; replace HB := zA (below_step (zB HB) hb); clear hb hbox hg; have NBCb_Ca := zA (Ne.symm NBCa_Cb.out); have hnb85_Ca := NBCb_Ca.out; have hnc85_Ca := NBCa_Cb.out; have hz85_Ca0 := zc0 BKCa; have hz85_Ca1 := zc1 BKCa; have hz85_Cb0 := zc0 BKCb; have hz85_Cb1 := zc1 BKCb; have hf85_Cb0 := blk_frozen BKCb.out 0; have hf85_Cb1 := blk_frozen BKCb.out 1) | ((with_reducible refine gate_callee (f := 24) rfl ?_); refine goesL_ (some 254) rfl rfl Try.func24 (by kernel_rfl) rfl #[.slice A0 l0.length c0] rfl zM ?_; (with_reducible refine (spec_DrawIsPrimeTerm.calls k _ _ l0 h0 h1 k0 k1 _ ?side1 ?side2 F_d4.out).mono ?_); (case side1 => exact (Kd.C_below HR0.out (zB1 HB GECb))); (case side2 => exact HC0.out); rintro e wk86 ⟨rfl, hb⟩; refine ⟨_, rfl, ?_⟩; replace BKCa := zf BKCa NBCa_Cb hb; replace BKCb := zp BKCb hb; replace HB := zA (below_step (zB1 HB GECb) hb); (try clear hb)) | ((with_reducible refine gate_dst (N := 35) rfl ?_); refine box_event ?hg (N := 35) ?hd (cs := #[.int .i64 0, .int .i64 0]) (t := 25) ?hr ?_; (case hd => rfl); (case hg => rfl); (case hr => exact zH); intro gbHh hg wk87 hbox hb; have BKHh := zA (hbox); have GEHh := zg HB hg; have NBCa_Hh := zn BKCa hg; have NBCb_Hh := zn BKCb hg; replace BKCa := zb BKCa hb; replace BKCb := zb BKCb hb; replace HB := zA (below_step (zB HB) hb); clear hb hbox hg; have NBHh_Ca := zA (Ne.symm NBCa_Hh.out); have hnb87_Ca := NBHh_Ca.out; have hnc87_Ca := NBCa_Hh.out; have NBHh_Cb := zA (Ne.symm NBCb_Hh.out); have hnb87_Cb := NBHh_Cb.out; have hnc87_Cb := NBCb_Hh.out; have hz87_Ca0 := zc0 BKCa; have hz87_Ca1 := zc1 BKCa; have hf87_Ca0 := blk_frozen BKCa.out 0; have hf87_Ca1 := blk_frozen BKCa.out 1; have hz87_Cb0 := zc0 BKCb; have hz87_Cb1 := zc1 BKCb; have hf87_Cb0 := blk_frozen BKCb.out 0; have hf87_Cb1 := blk_frozen BKCb.out 1; have hz87_Hh0 := zc0 BKHh; have hz87_Hh1 := zc1 BKHh; have hf87_Hh0 := blk_frozen BKHh.out 0; have hf87_Hh1 := blk_frozen BKHh.out 1) | ((with_reducible refine gate_dst (N := 36) rfl ?_); refine box_event ?hg (N := 36) ?hd (cs := #[.int .i64 0, .int .i64 0]) (t := 33) ?hr ?_; (case hd => rfl); (case hg => rfl); (case hr => exact zH); intro gbKk hg wk88 hbox hb; have BKKk := zA (hbox); have GEKk := zg HB hg; have NBCa_Kk := zn BKCa hg; have NBCb_Kk := zn BKCb hg; have NBHh_Kk := zn BKHh hg; replace BKCa := zb BKCa hb; replace BKCb := zb BKCb hb; replace BKHh := zb BKHh hb; replace HB := zA (below_step (zB HB) hb); clear hb hbox hg; have NBKk_Ca := zA (Ne.symm NBCa_Kk.out); have hnb88_Ca := NBKk_Ca.out; have hnc88_Ca := NBCa_Kk.out; have NBKk_Cb := zA (Ne.symm NBCb_Kk.out); have hnb88_Cb := NBKk_Cb.out; have hnc88_Cb := NBCb_Kk.out; have NBKk_Hh := zA (Ne.symm NBHh_Kk.out); have hnb88_Hh := NBKk_Hh.out; have hnc88_Hh := NBHh_Kk.out; have hz88_Ca0 := zc0 BKCa; have hz88_Ca1 := zc1 BKCa; have hf88_Ca0 := blk_frozen BKCa.out 0; have hf88_Ca1 := blk_frozen BKCa.out 1; have hz88_Cb0 := zc0 BKCb; have hz88_Cb1 := zc1 BKCb; have hf88_Cb0 := blk_frozen BKCb.out 0; have hf88_Cb1 := blk_frozen BKCb.out 1; have hz88_Hh0 := zc0 BKHh; have hz88_Hh1 := zc1 BKHh; have hf88_Hh0 := blk_frozen BKHh.out 0; have hf88_Hh1 := blk_frozen BKHh.out 1; have hz88_Kk0 := zc0 BKKk; have hz88_Kk1 := zc1 BKKk; have hf88_Kk0 := blk_frozen BKKk.out 0; have hf88_Kk1 := blk_frozen BKKk.out 1) | ((with_reducible refine gate_callee (f := 25) rfl ?_); refine goesL_ (some 259) rfl rfl Try.func25 (by kernel_rfl) rfl #[.slice A0 l0.length c0] rfl zM ?_; (with_reducible refine (spec_DrawTermHolds.calls k _ _ l0 u0 u1 vx _ ?side1 ?side2 F_d5.out).mono ?_); (case side1 => exact (Kd.C_below HR0.out (zB2 HB GEHh GEKk))); (case side2 => exact HC0.out); rintro e wk89 ⟨rfl, hb⟩; refine ⟨_, rfl, ?_⟩; replace BKCa := zA (blk_below (g := gbCa) (o := .cells #[.int .i64 e0, .int .i64 e1] 33 (0, 0)) (by (with_reducible repeat (first | refine blk_drewN ?_ _ | refine blk_drew ?_ | refine blk_alloc ?_ _)); refine blk_far ?_ NBCa_Kk.out _; (with_reducible repeat (first | refine blk_drewN ?_ _ | refine blk_drew ?_ | refine blk_alloc ?_ _)); refine blk_far ?_ NBCa_Kk.out _; (with_reducible repeat (first | refine blk_drewN ?_ _ | refine blk_drew ?_ | refine blk_alloc ?_ _)); refine blk_far ?_ NBCa_Hh.out _; (with_reducible repeat (first | refine blk_drewN ?_ _ | refine blk_drew ?_ | refine blk_alloc ?_ _)); refine blk_far ?_ NBCa_Hh.out _; (with_reducible repeat (first | refine blk_drewN ?_ _ | refine blk_drew ?_ | refine blk_alloc ?_ _)); exact BKCa.out) hb); replace BKCb := zA (blk_below (g := gbCb) (o := .cells #[.int .i64 e0, .int .i64 e1] 33 (0, 0)) (by (with_reducible repeat (first | refine blk_drewN ?_ _ | refine blk_drew ?_ | refine blk_alloc ?_ _)); refine blk_far ?_ NBCb_Kk.out _; (with_reducible repeat (first | refine blk_drewN ?_ _ | refine blk_drew ?_ | refine blk_alloc ?_ _)); refine blk_far ?_ NBCb_Kk.out _; (with_reducible repeat (first | refine blk_drewN ?_ _ | refine blk_drew ?_ | refine blk_alloc ?_ _)); refine blk_far ?_ NBCb_Hh.out _; (with_reducible repeat (first | refine blk_drewN ?_ _ | refine blk_drew ?_ | refine blk_alloc ?_ _)); refine blk_far ?_ NBCb_Hh.out _; (with_reducible repeat (first | refine blk_drewN ?_ _ | refine blk_drew ?_ | refine blk_alloc ?_ _)); exact BKCb.out) hb); replace BKHh := zA (blk_below (g := gbHh) (o := .cells #[.int .i64 h0, .int .i64 h1] 25 (0, 0)) (by (with_reducible repeat (first | refine blk_drewN ?_ _ | refine blk_drew ?_ | refine blk_alloc ?_ _)); refine blk_far ?_ NBHh_Kk.out _; (with_reducible repeat (first | refine blk_drewN ?_ _ | refine blk_drew ?_ | refine blk_alloc ?_ _)); refine blk_far ?_ NBHh_Kk.out _; (with_reducible repeat (first | refine blk_drewN ?_ _ | refine blk_drew ?_ | refine blk_alloc ?_ _)); refine blk_put (cs := #[.int .i64 h0, .int .i64 0]) ?_ 1 _ rfl; (with_reducible repeat (first | refine blk_drewN ?_ _ | refine blk_drew ?_ | refine blk_alloc ?_ _)); refine blk_put (cs := #[.int .i64 0, .int .i64 0]) ?_ 0 _ rfl; (with_reducible repeat (first | refine blk_drewN ?_ _ | refine blk_drew ?_ | refine blk_alloc ?_ _)); exact BKHh.out) hb); replace BKKk := zA (blk_below (g := gbKk) (o := .cells #[.int .i64 k0, .int .i64 k1] 33 (0, 0)) (by (with_reducible repeat (first | refine blk_drewN ?_ _ | refine blk_drew ?_ | refine blk_alloc ?_ _)); refine blk_put (cs := #[.int .i64 k0, .int .i64 0]) ?_ 1 _ rfl; (with_reducible repeat (first | refine blk_drewN ?_ _ | refine blk_drew ?_ | refine blk_alloc ?_ _)); refine blk_put (cs := #[.int .i64 0, .int .i64 0]) ?_ 0 _ rfl; (with_reducible repeat (first | refine blk_drewN ?_ _ | refine blk_drew ?_ | refine blk_alloc ?_ _)); refine blk_far ?_ NBKk_Hh.out _; (with_reducible repeat (first | refine blk_drewN ?_ _ | refine blk_drew ?_ | refine blk_alloc ?_ _)); refine blk_far ?_ NBKk_Hh.out _; (with_reducible repeat (first | refine blk_drewN ?_ _ | refine blk_drew ?_ | refine blk_alloc ?_ _)); exact BKKk.out) hb); replace HB := zA (below_step (zB2 HB GEHh GEKk) hb); (try clear hb)) | ((with_reducible refine gate_dst (N := 37) rfl ?_); refine box_event ?hg (N := 37) ?hd (cs := #[.int .i64 0, .int .i64 0]) (t := 33) ?hr ?_; (case hd => rfl); (case hg => rfl); (case hr => exact zH); intro gbUu hg wk90 hbox hb; have BKUu := zA (hbox); have GEUu := zg HB hg; have NBCa_Uu := zn BKCa hg; have NBCb_Uu := zn BKCb hg; have NBHh_Uu := zn BKHh hg; have NBKk_Uu := zn BKKk hg; replace BKCa := zb BKCa hb; replace BKCb := zb BKCb hb; replace BKHh := zb BKHh hb; replace BKKk := zb BKKk hb; replace HB := zA (below_step (zB HB) hb); clear hb hbox hg; have NBUu_Ca := zA (Ne.symm NBCa_Uu.out); have hnb90_Ca := NBUu_Ca.out; have hnc90_Ca := NBCa_Uu.out; have NBUu_Cb := zA (Ne.symm NBCb_Uu.out); have hnb90_Cb := NBUu_Cb.out; have hnc90_Cb := NBCb_Uu.out; have NBUu_Hh := zA (Ne.symm NBHh_Uu.out); have hnb90_Hh := NBUu_Hh.out; have hnc90_Hh := NBHh_Uu.out; have NBUu_Kk := zA (Ne.symm NBKk_Uu.out); have hnb90_Kk := NBUu_Kk.out; have hnc90_Kk := NBKk_Uu.out; have hz90_Ca0 := zc0 BKCa; have hz90_Ca1 := zc1 BKCa; have hz90_Cb0 := zc0 BKCb; have hz90_Cb1 := zc1 BKCb; have hz90_Hh0 := zc0 BKHh; have hz90_Hh1 := zc1 BKHh; have hz90_Kk0 := zc0 BKKk; have hz90_Kk1 := zc1 BKKk; have hz90_Uu0 := zc0 BKUu; have hz90_Uu1 := zc1 BKUu; have hf90_Uu0 := blk_frozen BKUu.out 0; have hf90_Uu1 := blk_frozen BKUu.out 1) | ((with_reducible refine gate_callee (f := 26) rfl ?_); refine goesL_ (some 264) rfl rfl Try.func26 (by kernel_rfl) rfl #[.slice A0 l0.length c0] rfl zM ?_; (with_reducible refine (spec_DrawTableOfTerms.calls k _ _ l0 wn y _ ?side1 ?side2 F_d6.out).mono ?_); (case side1 => exact (Kd.C_below HR0.out (zB1 HB GEUu))); (case side2 => exact HC0.out); rintro e wk91 ⟨v_, rfl, ho0, hb⟩; obtain ⟨Ay, cy, rfl⟩ := Kd.R_slice ho0; refine ⟨_, rfl, ?_⟩; have HRy := zA ((Kd.R_reads' ho0).2.2); have HCy := zA ((Kd.R_reads' ho0).2.1); have HBy := zA (Below.refl wk91.heap.size wk91); replace BKCa := zf BKCa NBCa_Uu hb; replace BKCb := zf BKCb NBCb_Uu hb; replace BKHh := zf BKHh NBHh_Uu hb; replace BKKk := zf BKKk NBKk_Uu hb; replace BKUu := zp BKUu hb; replace HB := zA (below_step (zB1 HB GEUu) hb); (try clear hb); (try clear ho0)) | ((with_reducible refine gate_callee (f := 15) rfl ?_); refine goesL_ (some 270) rfl rfl Try.func15 (by kernel_rfl) rfl #[.int .i64 wn, .slice Ay y.length cy] rfl zM ?_; (with_reducible refine (impl_TableOfTerms.calls wn _ _ y z0 z1 sv _ ?side1 ?side2 F_g1.out).mono ?_); (case side1 => exact Kd.C_below HRy.out (zB HBy)); (case side2 => exact HCy.out); rintro e wk92 ⟨rfl, hb⟩; refine ⟨_, rfl, ?_⟩; replace BKCa := zb BKCa hb; replace BKCb := zb BKCb hb; replace BKHh := zb BKHh hb; replace BKKk := zb BKKk hb; replace BKUu := zb BKUu hb; replace HB := zA (below_step (zB HB) hb); replace HBy := zA (below_step (zB HBy) hb); (try clear hb)) | ((with_reducible refine gate_dst (N := 41) rfl ?_); refine box_event ?hg (N := 41) ?hd (cs := #[.int .i64 0, .int .i64 0]) (t := 25) ?hr ?_; (case hd => rfl); (case hg => rfl); (case hr => exact zH); intro gbZa hg wk93 hbox hb; have BKZa := zA (hbox); have GEZa := zg HB hg; have GEyZa := zg HBy hg; have NBCa_Za := zn BKCa hg; have NBCb_Za := zn BKCb hg; have NBHh_Za := zn BKHh hg; have NBKk_Za := zn BKKk hg; have NBUu_Za := zn BKUu hg; replace BKCa := zb BKCa hb; replace BKCb := zb BKCb hb; replace BKHh := zb BKHh hb; replace BKKk := zb BKKk hb; replace BKUu := zb BKUu hb; replace HB := zA (below_step (zB HB) hb); replace HBy := zA (below_step (zB HBy) hb); clear hb hbox hg; have NBZa_Ca := zA (Ne.symm NBCa_Za.out); have hnb93_Ca := NBZa_Ca.out; have hnc93_Ca := NBCa_Za.out; have NBZa_Cb := zA (Ne.symm NBCb_Za.out); have hnb93_Cb := NBZa_Cb.out; have hnc93_Cb := NBCb_Za.out; have NBZa_Hh := zA (Ne.symm NBHh_Za.out); have hnb93_Hh := NBZa_Hh.out; have hnc93_Hh := NBHh_Za.out; have NBZa_Kk := zA (Ne.symm NBKk_Za.out); have hnb93_Kk := NBZa_Kk.out; have hnc93_Kk := NBKk_Za.out; have NBZa_Uu := zA (Ne.symm NBUu_Za.out); have hnb93_Uu := NBZa_Uu.out; have hnc93_Uu := NBUu_Za.out; have hz93_Ca0 := zc0 BKCa; have hz93_Ca1 := zc1 BKCa; have hz93_Cb0 := zc0 BKCb; have hz93_Cb1 := zc1 BKCb; have hz93_Hh0 := zc0 BKHh; have hz93_Hh1 := zc1 BKHh; have hz93_Kk0 := zc0 BKKk; have hz93_Kk1 := zc1 BKKk; have hz93_Uu0 := zc0 BKUu; have hz93_Uu1 := zc1 BKUu; have hz93_Za0 := zc0 BKZa; have hz93_Za1 := zc1 BKZa; have hf93_Za0 := blk_frozen BKZa.out 0; have hf93_Za1 := blk_frozen BKZa.out 1) | ((with_reducible refine gate_callee (f := 27) rfl ?_); refine goesL_ (some 276) rfl rfl Try.func27 (by kernel_rfl) rfl #[.int .i64 wn, .slice Ay y.length cy] rfl zM ?_; (with_reducible refine (spec_TableOfTerms.calls k wn _ _ y z0 z1 sv _ ?side1 ?side2 F_g2.out).mono ?_); (case side1 => exact Kd.C_below HRy.out (zB1 HBy GEyZa)); (case side2 => exact HCy.out); rintro e wk94 ⟨rfl, hb⟩; refine ⟨_, rfl, ?_⟩; replace BKCa := zf BKCa NBCa_Za hb; replace BKCb := zf BKCb NBCb_Za hb; replace BKHh := zf BKHh NBHh_Za hb; replace BKKk := zf BKKk NBKk_Za hb; replace BKUu := zf BKUu NBUu_Za hb; replace BKZa := zp BKZa hb; replace HB := zA (below_step (zB1 HB GEZa) hb); replace HBy := zA (below_step (zB1 HBy GEyZa) hb); (try clear hb)) | ((with_reducible refine gate_dst (N := 43) rfl ?_); refine box_event ?hg (N := 43) ?hd (cs := #[.int .i64 0, .int .i64 0]) (t := 25) ?hr ?_; (case hd => rfl); (case hg => rfl); (case hr => exact zH); intro gbZb hg wk95 hbox hb; have BKZb := zA (hbox); have GEZb := zg HB hg; have NBCa_Zb := zn BKCa hg; have NBCb_Zb := zn BKCb hg; have NBHh_Zb := zn BKHh hg; have NBKk_Zb := zn BKKk hg; have NBUu_Zb := zn BKUu hg; have NBZa_Zb := zn BKZa hg; replace BKCa := zb BKCa hb; replace BKCb := zb BKCb hb; replace BKHh := zb BKHh hb; replace BKKk := zb BKKk hb; replace BKUu := zb BKUu hb; replace BKZa := zb BKZa hb; replace HB := zA (below_step (zB HB) hb); clear hb hbox hg; have NBZb_Ca := zA (Ne.symm NBCa_Zb.out); have hnb95_Ca := NBZb_Ca.out; have hnc95_Ca := NBCa_Zb.out; have NBZb_Cb := zA (Ne.symm NBCb_Zb.out); have hnb95_Cb := NBZb_Cb.out; have hnc95_Cb := NBCb_Zb.out; have NBZb_Hh := zA (Ne.symm NBHh_Zb.out); have hnb95_Hh := NBZb_Hh.out; have hnc95_Hh := NBHh_Zb.out; have NBZb_Kk := zA (Ne.symm NBKk_Zb.out); have hnb95_Kk := NBZb_Kk.out; have hnc95_Kk := NBKk_Zb.out; have NBZb_Uu := zA (Ne.symm NBUu_Zb.out); have hnb95_Uu := NBZb_Uu.out; have hnc95_Uu := NBUu_Zb.out; have NBZb_Za := zA (Ne.symm NBZa_Zb.out); have hnb95_Za := NBZb_Za.out; have hnc95_Za := NBZa_Zb.out; have hz95_Ca0 := zc0 BKCa; have hz95_Ca1 := zc1 BKCa; have hz95_Cb0 := zc0 BKCb; have hz95_Cb1 := zc1 BKCb; have hz95_Hh0 := zc0 BKHh; have hz95_Hh1 := zc1 BKHh; have hz95_Kk0 := zc0 BKKk; have hz95_Kk1 := zc1 BKKk; have hz95_Uu0 := zc0 BKUu; have hz95_Uu1 := zc1 BKUu; have hz95_Za0 := zc0 BKZa; have hz95_Za1 := zc1 BKZa; have hz95_Zb0 := zc0 BKZb; have hz95_Zb1 := zc1 BKZb; have hf95_Zb0 := blk_frozen BKZb.out 0; have hf95_Zb1 := blk_frozen BKZb.out 1))
              have n0_ : Aside0 (((wk95.setCell ⟨gbZb, 0, none⟩ (.int .i64 z0)).setCell ⟨gbZb, 1, none⟩ (.int .i64 z1)).heap[gbCa]? = some (.cells #[.int .i64 e0, .int .i64 e1] 33 (0, 0))) := ⟨zF BKCa NBCa_Zb⟩
              have n1_ : Aside0 (((wk95.setCell ⟨gbZb, 0, none⟩ (.int .i64 z0)).setCell ⟨gbZb, 1, none⟩ (.int .i64 z1)).heap[gbCb]? = some (.cells #[.int .i64 e0, .int .i64 e1] 33 (0, 0))) := ⟨zF BKCb NBCb_Zb⟩
              have n2_ : Aside0 (((wk95.setCell ⟨gbZb, 0, none⟩ (.int .i64 z0)).setCell ⟨gbZb, 1, none⟩ (.int .i64 z1)).heap[gbHh]? = some (.cells #[.int .i64 h0, .int .i64 h1] 25 (0, 0))) := ⟨zF BKHh NBHh_Zb⟩
              have n3_ : Aside0 (((wk95.setCell ⟨gbZb, 0, none⟩ (.int .i64 z0)).setCell ⟨gbZb, 1, none⟩ (.int .i64 z1)).heap[gbKk]? = some (.cells #[.int .i64 k0, .int .i64 k1] 33 (0, 0))) := ⟨zF BKKk NBKk_Zb⟩
              have n4_ : Aside0 (((wk95.setCell ⟨gbZb, 0, none⟩ (.int .i64 z0)).setCell ⟨gbZb, 1, none⟩ (.int .i64 z1)).heap[gbUu]? = some (.cells #[.int .i64 u0, .int .i64 u1] 33 (0, 0))) := ⟨zF BKUu NBUu_Zb⟩
              have n5_ : Aside0 (((wk95.setCell ⟨gbZb, 0, none⟩ (.int .i64 z0)).setCell ⟨gbZb, 1, none⟩ (.int .i64 z1)).heap[gbZa]? = some (.cells #[.int .i64 z0, .int .i64 z1] 25 (0, 0))) := ⟨zF BKZa NBZa_Zb⟩
              have n6_ : Aside0 (((wk95.setCell ⟨gbZb, 0, none⟩ (.int .i64 z0)).setCell ⟨gbZb, 1, none⟩ (.int .i64 z1)).heap[gbZb]? = some (.cells #[.int .i64 z0, .int .i64 z1] 25 (0, 0))) := ⟨zP BKZb⟩
              have n7_ : Aside0 (Below w.heap.size w ((wk95.setCell ⟨gbZb, 0, none⟩ (.int .i64 z0)).setCell ⟨gbZb, 1, none⟩ (.int .i64 z1))) := ⟨zB1 HB GEZb⟩
              clear BKCa BKCb BKHh BKKk BKUu BKZa BKZb HB
              generalize ((wk95.setCell ⟨gbZb, 0, none⟩ (.int .i64 z0)).setCell ⟨gbZb, 1, none⟩ (.int .i64 z1)) = wg6 at n0_ n1_ n2_ n3_ n4_ n5_ n6_ n7_ ⊢
              have BKCa := n0_
              have BKCb := n1_
              have BKHh := n2_
              have BKKk := n3_
              have BKUu := n4_
              have BKZa := n5_
              have BKZb := n6_
              have HB := n7_
              clear n0_ n1_ n2_ n3_ n4_ n5_ n6_ n7_
              have hkS : Aside0 (∀ W : World, W.heap[gbCa]? = some (.cells #[.int .i64 e0, .int .i64 e1] 33 (0, 0)) → W.heap[gbCb]? = some (.cells #[.int .i64 e0, .int .i64 e1] 33 (0, 0)) → W.heap[gbHh]? = some (.cells #[.int .i64 h0, .int .i64 h1] 25 (0, 0)) → W.heap[gbKk]? = some (.cells #[.int .i64 k0, .int .i64 k1] 33 (0, 0)) → W.heap[gbUu]? = some (.cells #[.int .i64 u0, .int .i64 u1] 33 (0, 0)) → W.heap[gbZa]? = some (.cells #[.int .i64 z0, .int .i64 z1] 25 (0, 0)) → W.heap[gbZb]? = some (.cells #[.int .i64 z0, .int .i64 z1] 25 (0, 0)) → Below w.heap.size w W → (fun w' => w'.cell? ⟨gbCa, 0, none⟩ = some (.int .i64 e0) ∧ w'.cell? ⟨gbCa, 1, none⟩ = some (.int .i64 e1) ∧ w'.cell? ⟨gbCb, 0, none⟩ = some (.int .i64 e0) ∧ w'.cell? ⟨gbCb, 1, none⟩ = some (.int .i64 e1) ∧ w'.cell? ⟨gbHh, 0, none⟩ = some (.int .i64 h0) ∧ w'.cell? ⟨gbHh, 1, none⟩ = some (.int .i64 h1) ∧ w'.cell? ⟨gbKk, 0, none⟩ = some (.int .i64 k0) ∧ w'.cell? ⟨gbKk, 1, none⟩ = some (.int .i64 k1) ∧ w'.cell? ⟨gbUu, 0, none⟩ = some (.int .i64 u0) ∧ w'.cell? ⟨gbUu, 1, none⟩ = some (.int .i64 u1) ∧ w'.cell? ⟨gbZa, 0, none⟩ = some (.int .i64 z0) ∧ w'.cell? ⟨gbZa, 1, none⟩ = some (.int .i64 z1) ∧ w'.cell? ⟨gbZb, 0, none⟩ = some (.int .i64 z0) ∧ w'.cell? ⟨gbZb, 1, none⟩ = some (.int .i64 z1) ∧ Aside0 (w'.heap[gbCa]? = some (.cells #[.int .i64 e0, .int .i64 e1] 33 (0, 0))) ∧ Aside0 (w'.heap[gbCb]? = some (.cells #[.int .i64 e0, .int .i64 e1] 33 (0, 0))) ∧ Aside0 (w'.heap[gbHh]? = some (.cells #[.int .i64 h0, .int .i64 h1] 25 (0, 0))) ∧ Aside0 (w'.heap[gbKk]? = some (.cells #[.int .i64 k0, .int .i64 k1] 33 (0, 0))) ∧ Aside0 (w'.heap[gbUu]? = some (.cells #[.int .i64 u0, .int .i64 u1] 33 (0, 0))) ∧ Aside0 (w'.heap[gbZa]? = some (.cells #[.int .i64 z0, .int .i64 z1] 25 (0, 0))) ∧ Aside0 (w'.heap[gbZb]? = some (.cells #[.int .i64 z0, .int .i64 z1] 25 (0, 0))) ∧ Aside0 (Below w.heap.size w w')) W) := ⟨fun W hCa hCb hHh hKk hUu hZa hZb hb => ⟨(blk_cell hCa 0).trans rfl, (blk_cell hCa 1).trans rfl, (blk_cell hCb 0).trans rfl, (blk_cell hCb 1).trans rfl, (blk_cell hHh 0).trans rfl, (blk_cell hHh 1).trans rfl, (blk_cell hKk 0).trans rfl, (blk_cell hKk 1).trans rfl, (blk_cell hUu 0).trans rfl, (blk_cell hUu 1).trans rfl, (blk_cell hZa 0).trans rfl, (blk_cell hZa 1).trans rfl, (blk_cell hZb 0).trans rfl, (blk_cell hZb 1).trans rfl, ⟨hCa⟩, ⟨hCb⟩, ⟨hHh⟩, ⟨hKk⟩, ⟨hUu⟩, ⟨hZa⟩, ⟨hZb⟩, ⟨hb⟩⟩⟩
              go_region_held3 (fun w' => w'.cell? ⟨gbCa, 0, none⟩ = some (.int .i64 e0) ∧ w'.cell? ⟨gbCa, 1, none⟩ = some (.int .i64 e1) ∧ w'.cell? ⟨gbCb, 0, none⟩ = some (.int .i64 e0) ∧ w'.cell? ⟨gbCb, 1, none⟩ = some (.int .i64 e1) ∧ w'.cell? ⟨gbHh, 0, none⟩ = some (.int .i64 h0) ∧ w'.cell? ⟨gbHh, 1, none⟩ = some (.int .i64 h1) ∧ w'.cell? ⟨gbKk, 0, none⟩ = some (.int .i64 k0) ∧ w'.cell? ⟨gbKk, 1, none⟩ = some (.int .i64 k1) ∧ w'.cell? ⟨gbUu, 0, none⟩ = some (.int .i64 u0) ∧ w'.cell? ⟨gbUu, 1, none⟩ = some (.int .i64 u1) ∧ w'.cell? ⟨gbZa, 0, none⟩ = some (.int .i64 z0) ∧ w'.cell? ⟨gbZa, 1, none⟩ = some (.int .i64 z1) ∧ w'.cell? ⟨gbZb, 0, none⟩ = some (.int .i64 z0) ∧ w'.cell? ⟨gbZb, 1, none⟩ = some (.int .i64 z1) ∧ Aside0 (w'.heap[gbCa]? = some (.cells #[.int .i64 e0, .int .i64 e1] 33 (0, 0))) ∧ Aside0 (w'.heap[gbCb]? = some (.cells #[.int .i64 e0, .int .i64 e1] 33 (0, 0))) ∧ Aside0 (w'.heap[gbHh]? = some (.cells #[.int .i64 h0, .int .i64 h1] 25 (0, 0))) ∧ Aside0 (w'.heap[gbKk]? = some (.cells #[.int .i64 k0, .int .i64 k1] 33 (0, 0))) ∧ Aside0 (w'.heap[gbUu]? = some (.cells #[.int .i64 u0, .int .i64 u1] 33 (0, 0))) ∧ Aside0 (w'.heap[gbZa]? = some (.cells #[.int .i64 z0, .int .i64 z1] 25 (0, 0))) ∧ Aside0 (w'.heap[gbZb]? = some (.cells #[.int .i64 z0, .int .i64 z1] 25 (0, 0))) ∧ Aside0 (Below w.heap.size w w'))
               (first | exact hkS.out _ (blk_drew BKCa.out) (blk_drew BKCb.out) (blk_drew BKHh.out) (blk_drew BKKk.out) (blk_drew BKUu.out) (blk_drew BKZa.out) (blk_drew BKZb.out) (below_drew1 HB.out) | (go_split_ands; exact hkS.out _ (blk_below (Aside0.out (by assumption)) hb4) (blk_below (Aside0.out (by assumption)) hb4) (blk_below (Aside0.out (by assumption)) hb4) (blk_below (Aside0.out (by assumption)) hb4) (blk_below (Aside0.out (by assumption)) hb4) (blk_below (Aside0.out (by assumption)) hb4) (blk_below (Aside0.out (by assumption)) hb4) (below_step (Aside0.out (by assumption)) hb4)))
               (first | (go_at_call 13; (with_reducible refine (impl_IsPrimeTerm.calls k h0 h1 k0 k1 pb _ F_i1.out).mono ?_); rintro e w4 ⟨rfl, hb4⟩) | (go_at_call 28; (with_reducible refine (spec_IsPrimeTerm.calls k h0 h1 k0 k1 pb _ F_i2.out).mono ?_); rintro e w4 ⟨rfl, hb4⟩) | (go_at_call 14; (with_reducible refine (impl_IsImplicant.calls h0 h1 k0 k1 jb _ F_j1.out).mono ?_); rintro e w4 ⟨rfl, hb4⟩) | (go_at_call 29; (with_reducible refine (spec_IsImplicant.calls k h0 h1 k0 k1 jb _ F_j2.out).mono ?_); rintro e w4 ⟨rfl, hb4⟩) | (go_at_call 30; (with_reducible refine (impl_TermHolds.calls u0 u1 vx ob _ F_o1.out).mono ?_); rintro e w4 ⟨rfl, hb4⟩) | (go_at_call 31; (with_reducible refine (spec_TermHolds.calls u0 u1 vx ob _ F_o2.out).mono ?_); rintro e w4 ⟨rfl, hb4⟩))
              all_goals (go_wp2_with (fail))
              all_goals go_ret
              all_goals exact ⟨by first | rfl | (simp; done) | (simp [*]; done), by first | exact Aside0.out (by assumption) | (go_split_ands; exact Aside0.out (by assumption))⟩
end Go.Proofs.Ytfiejicdlaknnaa.P
