/- FnPrimes: what each draw and each call comes to, and so the law. No conditions but those that stand in the theorems. -/
import Derived.Test.YtfiejicdlaknnaaPmw
import Derived.Test.YtfiejicdlaknnaaK8
import Derived.Test.YtfiejicdlaknnaaPa0
namespace Go.Proofs.Ytfiejicdlaknnaa.Pmz
set_option linter.unusedVariables false
set_option linter.unusedSimpArgs false
open Go Go.RowKit Go.Proofs.Ytfiejicdlaknnaa.P Go.Proofs.Ytfiejicdlaknnaa.Bits Go.Proofs.Ytfiejicdlaknnaa.Tab Go.Proofs.Ytfiejicdlaknnaa.Shl Go.Proofs.Ytfiejicdlaknnaa.Prm Go.Proofs.Ytfiejicdlaknnaa.Ess Go.Proofs.Ytfiejicdlaknnaa.Tot Go.Proofs.Ytfiejicdlaknnaa.Pms Go.Proofs.Ytfiejicdlaknnaa.Pmt Go.Proofs.Ytfiejicdlaknnaa.Pap Go.Proofs.Ytfiejicdlaknnaa.Pmk Go.Proofs.Ytfiejicdlaknnaa.Drw Go.Proofs.YtfiejicdlaknnaaW.PrintWords Go.Proofs.YtfiejicdlaknnaaW.PrintLast Go.Proofs.YtfiejicdlaknnaaW.PrintMore

theorem law_calls (A0 : Option Addr) (c0 : Nat) (l0 : List Int) (hl : l0.length ≤ 1048576) (w : World) (hr0 : Kd.C (Kd.int .u8) w A0 l0.length l0) (hc0 : l0.length ≤ c0) :
  Calls Try.prog 3 #[.slice A0 l0.length c0] w fun e w' => e = .returned (.bool true) ∧ Below w.heap.size w w' := by
 have hbig : laws_big.f l0 = some false := by
  unfold laws_big.f
  rw [decide_eq_false (by omega)]
 obtain ⟨K, hK⟩ : ∃ K, K = l0.length + 1500000 := ⟨_, rfl⟩
 obtain ⟨n, wd, d1, -⟩ := draw_min l0 hl K (by omega)
 obtain ⟨m, q, d, is, pr, es, hm, hq, hd, sM, iM, sP, iP, sE, iE, hin, hy⟩ := terms_law n wd K (by omega)
 obtain ⟨fn, t0, t1, d2, -, -, -, -, -, t1b⟩ := draw_format l0 hl K (by omega)
 obtain ⟨s, x0, x1, f1, f2, f3, f4⟩ := text_law fn t0 t1 t1b
 obtain ⟨an, sb, d3, an0, an1, sbs⟩ := draw_parse l0 hl K (by omega)
 obtain ⟨⟨e0, e1, five⟩, hp⟩ := parse_same an sb ⟨by omega, by omega⟩ (by omega)
 obtain ⟨r2, r1⟩ := hp K (by omega)
 obtain ⟨h0, h1, k0, k1, d4, k1b⟩ := both_ok l0 hl K (by omega)
 obtain ⟨pb, i1, i2⟩ := prime_same2 h0 h1 k0 k1 k1b K (by omega)
 obtain ⟨jb, j1, j2⟩ := imp_same2 h0 h1 k0 k1 k1b K (by omega)
 obtain ⟨u0, u1, vx, d5, -, -, -, u1b, -⟩ := draw_holds l0 hl K (by omega)
 obtain ⟨ob, o1, o2⟩ := holds_same2 u0 u1 vx u1b
 obtain ⟨wn, y, d6, yl, yb⟩ := draw_tot l0 hl K (by omega)
 obtain ⟨⟨z0, z1, sv⟩, g2, g1⟩ := tot_same wn y (by omega) yb
 refine pri_calls K A0 c0 l0 hl w hr0 hc0 n wd m q d is pr es fn t0 t1 s x0 x1 (isM fn t0 t1) an sb e0 e1 five h0 h1 k0 k1 pb jb u0 u1 vx ob wn y z0 z1 sv hm hq hd hbig d1 iM sM (same_self m (by omega) (by omega)) iP sP (same_self q (by omega) (by omega)) iE sE (same_self d (by omega) (by omega)) ?_ ?_ d2 (f1 K (by omega)).2 (f3 K (by omega)) (f1 K (by omega)).1 (spec_IsTerm_is fn t0 t1) (impl_IsTerm_is fn t0 t1 t1b) ?_ d3 r1 r2 d4 i1 i2 j1 j2 d5 o1 o2 d6 g1 (g2 K (by omega))
 ·intro t ht
  obtain ⟨N, W, rfl, rfl, h5, hW, hT, hmem⟩ := hin t ht
  exact member N W h5 hT t hmem K (by omega)
 ·cases is
  ·exact Or.inl rfl
  ·exact Or.inr ⟨rfl, hy rfl⟩
 ·cases h : isM fn t0 t1
  ·exact Or.inl rfl
  ·exact Or.inr ⟨rfl, f4 h⟩

set_option maxRecDepth 100000 in
theorem big_calls (A0 : Option Addr) (c0 : Nat) (l0 : List Int) (w : World) (hl : 1048576 < l0.length) (hr0 : Kd.C (Kd.int .u8) w A0 l0.length l0) (hc0 : l0.length ≤ c0) :
  Calls Try.prog 3 #[.slice A0 l0.length c0] w fun e w' => e = .returned (.bool true) ∧ Below w.heap.size w w' := by
 have hbig : laws_big.f l0 = some true := by
  unfold laws_big.f
  rw [decide_eq_true (by omega)]
 have HR0 := zA hr0
 have HC0 := zA hc0
 have HB := zA (Below.refl w.heap.size w)
 have A2 := zA hbig
 clear hr0 hc0 hbig hl
 go_enter Try.func3, Try.ntmps3
 go_wp2_with (first | ((with_reducible refine gate_callee (f := 4) rfl ?_); refine goesL_ (some 46) rfl rfl Try.func4 (by kernel_rfl) rfl #[.slice A0 l0.length c0] rfl zM ?_; (with_reducible refine (laws_big.calls _ _ l0 true _ ?side1 ?side2 A2.out).mono ?_); (case side1 => repeat (first | exact (Kd.C_below HR0.out HB.out) | exact HR0.out | (with_reducible refine Kd.C_alloc ?_ _) | (with_reducible refine Kd.C_drewN ?_ _) | (with_reducible refine Kd.C_drew ?_))); (case side2 => exact HC0.out); rintro e w' ⟨rfl, ⟨nd15, rfl⟩⟩; refine ⟨_, rfl, ?_⟩))
 go_ret
 exact ⟨rfl, zB HB⟩
theorem law_walk (a0 : Option Addr) (len0 cap0 : Nat) (z0 : List Int) (w : World) (w0 : (a0 = none ∧ len0 = 0 ∧ cap0 = 0 ∧ z0 = []) ∨ ∃ x, a0 = some x ∧ len0 ≤ cap0 ∧ cap0 ≤ maxLen ∧ z0.length = cap0 ∧ (∀ i, i < z0.length → w.cell? (x.add i) = some (.int .u8 (z0.getD i 0))) ∧ ∀ n ∈ z0, (Lit.int .u8 n).wf = true) :
  Calls Try.prog 3 #[.slice a0 len0 cap0] w fun e w' => e = .returned (.bool true) ∧ Below w.heap.size w w' := by
 obtain ⟨l0, rfl, hr0, hm0, hw0, hc0⟩ := ReadsInt.ofRowC w0
 by_cases hl : l0.length ≤ 1048576
 ·exact law_calls _ _ l0 hl w (Kd.C_of_reads (d := (0 : Int)) (h1 := fun _ => rfl) hr0) hc0
 ·exact big_calls _ _ l0 w (by omega) (Kd.C_of_reads (d := (0 : Int)) (h1 := fun _ => rfl) hr0) hc0
end Go.Proofs.Ytfiejicdlaknnaa.Pmz
