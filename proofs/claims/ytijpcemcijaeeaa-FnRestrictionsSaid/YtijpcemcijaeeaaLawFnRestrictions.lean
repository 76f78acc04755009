/- FnRestrictions: what each draw and each call comes to, and so the law. No conditions but those that stand in the theorems. -/
import Derived.Test.YtijpcemcijaeeaaRsw
import Derived.Test.YtijpcemcijaeeaaK3
import Derived.Test.YtijpcemcijaeeaaK1
import Derived.Test.YtijpcemcijaeeaaRows
import Derived.Test.YtijpcemcijaeeaaFacts
import Derived.WalkKit
import Derived.ProofKit
import Derived.OpenShut
import Derived.ShutString
import Derived.ChangeOld
import Derived.Below
import Derived.SizedLaws
import Derived.Lib.SmallJoins

namespace Go.Proofs.Ytijpcemcijaeeaa.Rsf
set_option linter.unusedVariables false
set_option linter.unusedSimpArgs false
open Go Go.RowKit Go.Proofs.Ytijpcemcijaeeaa.P Go.Proofs.Ytijpcemcijaeeaa.Bits Go.Proofs.Ytijpcemcijaeeaa.Tab Go.Proofs.Ytijpcemcijaeeaa.Rf Go.Proofs.Ytijpcemcijaeeaa.Drw Go.Proofs.YtijpcemcijaeeaaW.PrintWords Go.Proofs.YtijpcemcijaeeaaW.PrintLast Go.Proofs.YtijpcemcijaeeaaW.PrintMore

theorem odd_full (N : Nat) (hN : N ≤ 4) : bits .and .i64 ((2 ^ 2 ^ N - 1 : Nat) : Int) 1 = 1 := by
 have h : ∀ N : Fin 5, bits .and .i64 ((2 ^ 2 ^ N.val - 1 : Nat) : Int) 1 = 1 := by decide +kernel
 exact h ⟨N, by omega⟩
theorem cubeOf_is (r N : Nat) (hN : N ≤ 4) (hr : r < 2 ^ 2 ^ N) : laws_cubeOf.f (N : Int) (r : Int) = some (cubeN r N) := by
 have h5 : isT (N : Int) (r : Int) = true := isT_nat (by omega) hr
 have hl := lim_nat5 (n := N) (by omega)
 have hp : 0 < 2 ^ 2 ^ N := Nat.pos_of_ne_zero (by simp)
 have o := odd_full N hN
 have z : bits .and .i64 0 1 = 0 := by decide +kernel
 unfold laws_cubeOf.f spec_IsConstant.f cubeN
 rw [spec_IsTable_is, h5]
 simp only [Option.bind_some, if_true]
 rw [full_is N (by omega), hl]
 simp only [Option.bind_some]
 by_cases h0 : r = 0
 ·subst h0
  rw [if_pos (show ((0 : Nat) : Int) = 0 from rfl), if_pos rfl]
  simp only [Option.bind_some, if_true]
  exact congrArg some z
 ·rw [if_neg (show ¬ (r : Int) = 0 by omega), if_neg h0]
  simp only [Option.bind_some]
  by_cases h1 : r = 2 ^ 2 ^ N - 1
  ·rw [if_pos h1, if_pos (by rw [beq_iff_eq]; omega), h1, o]
  ·rw [if_neg h1, if_neg (by rw [beq_iff_eq]; omega)]

theorem law_calls (A0 : Option Addr) (c0 : Nat) (l0 : List Int) (hl : l0.length ≤ 1048576) (w : World) (hr0 : Kd.C (Kd.int .u8) w A0 l0.length l0) (hc0 : l0.length ≤ c0) :
  Calls Try.prog 20 #[.slice A0 l0.length c0] w fun e w' => e = .returned (.bool true) ∧ Below w.heap.size w w' := by
 have hbig : laws_big.f l0 = some false := by
  unfold laws_big.f
  rw [decide_eq_false (by omega)]
 obtain ⟨f0, f1, i, b, d1, -⟩ := draw_restrict l0 hl (l0.length + 600) (by omega)
 obtain ⟨g0, g1, is, r1, r2, rs⟩ := restrict_law f0 f1 i b (l0.length + 600) (by omega)
 obtain ⟨s0, s1, sk, d3, -⟩ := draw_shift l0 hl (l0.length + 600) (by omega)
 obtain ⟨t0, t1, three, h1, h2, hs⟩ := shift_back s0 s1 sk (l0.length + 600) (by omega)
 obtain ⟨v0, v1, d4, -⟩ := draw_reduce l0 hl (l0.length + 600) (by omega)
 obtain ⟨a0, a1, five, u1, u2, us⟩ := reduce_law v0 v1 (l0.length + 600) (by omega)
 obtain ⟨vl, vn, v3, v2, -⟩ := vars_law v0 v1 (l0.length + 600) (by omega)
 obtain ⟨j0, j1, j2, j3, ji, d5, -⟩ := draw_join l0 hl (l0.length + 600) (by omega)
 obtain ⟨⟨m0, m1, seven⟩, n2, n1⟩ := Rfd.join_both j0 j1 j2 j3 ji (l0.length + 599) (by omega)
 obtain ⟨o0, o1, aa, d6, -⟩ := draw_depends l0 hl (l0.length + 600) (by omega)
 obtain ⟨od, e1, e2⟩ := Rfd.depends_both o0 o1 aa (l0.length + 600) (by omega)
 obtain ⟨b0, b1, cc, dd, d7, -, -, -, -, -, dd16⟩ := draw_cube l0 hl (l0.length + 600) (by omega)
 obtain ⟨cv, c1, c2⟩ := Rfd.cube_both b0 b1 cc dd (by omega) (l0.length + 600) (by omega)
 refine res_calls (l0.length + 600) A0 c0 l0 hl w hr0 hc0 f0 f1 i b g0 g1 is s0 s1 sk t0 t1 three v0 v1 a0 a1 five vl j0 j1 j2 j3 ji m0 m1 seven o0 o1 aa od b0 b1 cc dd cv hbig d1 r1 r2 ?_ ?_ d3 h1 h2 hs d4 u1 u2 ?_ v2 v3 (sameInts_self vl (by omega) _ (by omega)) d5 n1 n2 d6 e1 e2 d7 c1 c2
 ·rcases rs with h | ⟨h, hi, N, W, I, B, hN, hI, hB, hW, rfl, rfl, rfl, rfl, rfl, rfl⟩
  ·exact Or.inl h
  ·refine Or.inr ⟨h, hi, (N : Int), (resN W I 0 N : Int), (resN W I 1 N : Int), cubeN (resN W I B N) N, ((resN W I 0 N : Int) == (resN W I 1 N : Int)), restrict_at N W I 0 hN hI (by omega) hW _ (by omega), restrict_at N W I 1 hN hI (by omega) hW _ (by omega), join_is W I N hN hI hW _ (by omega), ?_, rfl, cubeV_is W I B N hN hI hB hW, cubeOf_is _ N hN (resN_lt _ _ _ _)⟩
   rw [depends_at N W I hN hI hW]
   congr 1
   rw [bne, Bool.eq_iff_iff]
   simp only [Bool.not_eq_true', beq_eq_false_iff_ne, ne_eq]
   omega
 ·intro n v x hx
  have hm : x.length * (x.length + 3) ≤ 6 * 9 := Nat.mul_le_mul hx (by omega)
  exact Rfc.permute_law n v x (by omega) (l0.length + 600) (by omega)
 ·rcases us with h | ⟨h, l, l', p1, p2, p3, p4⟩
  ·exact Or.inl h
  ·obtain rfl : vl = l := Option.some.inj (v2.symm.trans p1)
   exact Or.inr ⟨h, p3, l', p2, by omega⟩

set_option maxRecDepth 100000 in
theorem big_calls (A0 : Option Addr) (c0 : Nat) (l0 : List Int) (w : World) (hl : 1048576 < l0.length) (hr0 : Kd.C (Kd.int .u8) w A0 l0.length l0) (hc0 : l0.length ≤ c0) :
  Calls Try.prog 20 #[.slice A0 l0.length c0] w fun e w' => e = .returned (.bool true) ∧ Below w.heap.size w w' := by
 have hbig : laws_big.f l0 = some true := by
  unfold laws_big.f
  rw [decide_eq_true (by omega)]
 have HR0 := zA hr0
 have HC0 := zA hc0
 have HB := zA (Below.refl w.heap.size w)
 have A2 := zA hbig
 clear hr0 hc0 hbig hl
 go_enter Try.func20, Try.ntmps20
 go_wp2_with (first | ((with_reducible refine gate_callee (f := 64) rfl ?_); refine goesL_ (some 48) rfl rfl Try.func64 (by kernel_rfl) rfl #[.slice A0 l0.length c0] rfl zM ?_; (with_reducible refine (laws_big.calls _ _ l0 true _ ?side1 ?side2 A2.out).mono ?_); (case side1 => repeat (first | exact (Kd.C_below HR0.out HB.out) | exact HR0.out | (with_reducible refine Kd.C_alloc ?_ _) | (with_reducible refine Kd.C_drewN ?_ _) | (with_reducible refine Kd.C_drew ?_))); (case side2 => exact HC0.out); rintro e w' ⟨rfl, ⟨nd15, rfl⟩⟩; refine ⟨_, rfl, ?_⟩))
 go_ret
 exact ⟨rfl, zB HB⟩
theorem law_walk (a0 : Option Addr) (len0 cap0 : Nat) (z0 : List Int) (w : World) (w0 : (a0 = none ∧ len0 = 0 ∧ cap0 = 0 ∧ z0 = []) ∨ ∃ x, a0 = some x ∧ len0 ≤ cap0 ∧ cap0 ≤ maxLen ∧ z0.length = cap0 ∧ (∀ i, i < z0.length → w.cell? (x.add i) = some (.int .u8 (z0.getD i 0))) ∧ ∀ n ∈ z0, (Lit.int .u8 n).wf = true) :
  Calls Try.prog 20 #[.slice a0 len0 cap0] w fun e w' => e = .returned (.bool true) ∧ Below w.heap.size w w' := by
 obtain ⟨l0, rfl, hr0, hm0, hw0, hc0⟩ := ReadsInt.ofRowC w0
 by_cases hl : l0.length ≤ 1048576
 ·exact law_calls _ _ l0 hl w (Kd.C_of_reads (d := (0 : Int)) (h1 := fun _ => rfl) hr0) hc0
 ·exact big_calls _ _ l0 w (by omega) (Kd.C_of_reads (d := (0 : Int)) (h1 := fun _ => rfl) hr0) hc0
end Go.Proofs.Ytijpcemcijaeeaa.Rsf

namespace Go.Proofs.Ytijpcemcijaeeaa.fnRestrictions
set_option linter.unusedVariables false
set_option linter.unusedSimpArgs false
open Go.ChangeShapes Go.WideShapes Go.ChangeAt Go.RowKit Go.Joins Go.Proofs.YtijpcemcijaeeaaW
open Go.ChangeMaps (open_string shut_string)
theorem own : ownKnob Try.prog.godebug = none := by kernel_rfl
theorem laidOut : laidOutB Try.prog = true := by kernel_rfl
def IsRow (k : IntKind) (w : World) (a : Option Addr) (len cap : Nat) (zs : List Int) : Prop :=
 (a = none ∧ len = 0 ∧ cap = 0 ∧ zs = []) ∨
 ∃ x, a = some x ∧ len ≤ cap ∧ cap ≤ maxLen ∧ zs.length = cap ∧ (∀ i, i < zs.length → w.cell? (x.add i) = some (.int k (zs.getD i 0))) ∧ ∀ n ∈ zs, (Lit.int k n).wf = true
set_option maxRecDepth 100000 in
theorem lifted (os : Os) (started : os.Started) (H : Type) (enc : TypeId × Value → H) :
  ReturnsInHanded {} Try.checked os 20 .any (Rows.fnRestrictionsSpec.pre6 enc Try.prog Try.f20 Rows.fnRestrictionsRow.domain false) (Rows.fnRestrictionsSpec.post enc Try.prog Try.f20 false true false false) := by
 refine returnsInHanded_of_change_sized (C := Try.checked) own started (by kernel_rfl) Try.func20
  (ChangeSpec.witness6 (enc := enc) (C := Try.checked) false ⟨#[], #[.slice none 0 0], []⟩ 8 (by kernel_rfl) (by kernel_rfl) (by kernel_rfl) (by kernel_rfl)) ?_
 intro W base args ds gs before hval0 hW hcnd hsz0 _
 have hsz : (DataW.weightsEach Try.prog (Try.f20.params.toList ++ Rows.fnRestrictionsSpec.plain.varTypes Try.prog) (ds ++ gs)).all (· ≤ reachBytes) = true := hsz0
 have hval : ∀ (j : Nat) t v, Try.f20.params[j]? = some t → args[j]? = some v → Value.okWide Try.prog W .any base t v := hval0
 have hW' := hW
 obtain ⟨p, q, hA0, hV, rfl, hfz, hnd⟩ := hW
 have hA : DataW.TrodAll enc Try.prog W 0 (fun _ => true) true Try.f20.params.toList args.toList ds p := hA0
 rw [Try.params20] at hA hval hsz
 obtain ⟨v0, vs0, d0, ds0, p0, q0, hargs, rfl, rfl, h0, r0⟩ := trodAll_cons hA
 obtain ⟨rfl, rfl, rfl⟩ := trodAll_nil r0
 obtain rfl : args = #[v0] := by cases args; simp_all
 obtain ⟨rfl, rfl⟩ := trodVars_none hV
 obtain ⟨a0, len0, cap0, rfl⟩ := okWide_slice Try.underlying58 (hval 0 58 v0 rfl rfl)
 have k0 := h0
 have lt0 : ∀ x ∈ p0, x.block < W.heap.size := by obtain ⟨m, hm⟩ := k0; exact DataW.trod_lt m _ _ _ hm
 obtain ⟨z0, w0⟩ : ∃ zs, IsRow .u8 W a0 len0 cap0 zs := by
  obtain ⟨fuel, hf⟩ := h0
  rcases open_ints Try.underlying58 Try.underlying5 (by kernel_rfl) hf with ⟨hcs, _⟩ | ⟨x, l, c, zs, hcs, _, hl, hm, hz, _, hcell, hwz⟩
  ·simp [Value.cells] at hcs
   obtain ⟨rfl, rfl, rfl⟩ := hcs
   exact ⟨[], .inl ⟨rfl, rfl, rfl, rfl⟩⟩
  ·simp [Value.cells] at hcs
   obtain ⟨rfl, rfl, rfl⟩ := hcs
   exact ⟨zs, .inr ⟨_, rfl, hl, hm, by simpa using hz, hcell, hwz⟩⟩
 clear hA0 hval0 hsz0 hsz
 refine (Rsf.law_walk a0 len0 cap0 z0 W w0).mono fun e W' ⟨he, bel⟩ => ?_
 subst he
 exact ⟨_, rfl, _, _, _, [], _, [], hW', trodAll_mk1 (shut_bool Try.underlying4 _), (trodAll_cons_mk (Below.trod laidOut (by kernel_rfl) (of_decide_eq_true (by kernel_rfl)) k0 bel lt0) trodAll_mk0), rfl, bel.frame _, fun h => by cases h⟩
theorem closed : joinedFacts Try.prog 20 Try.f20 Rows.fnRestrictionsSpec Rows.fnRestrictionsRow = true := by
 unfold joinedFacts
 exact Facts.joined_of (by kernel_rfl) Facts.mayEnter_yes (by rw [Facts.liftsFinal_no]; kernel_rfl) (by rw [Facts.make_is]; kernel_rfl) (by kernel_rfl) (by kernel_rfl) (by kernel_rfl) (by kernel_rfl)
theorem over : Rows.fnRestrictionsRow.holds Try.pinned (OpenSpec.ofChange Rows.fnRestrictionsSpec) :=
 OpenClaim.holds_of_wide 20 Try.f20 rfl rfl rfl rfl rfl rfl rfl ⟨rfl, rfl, rfl, rfl, rfl⟩ rfl rfl rfl rfl rfl (by kernel_rfl) Try.func20 closed
  (of_decide_eq_true (by kernel_rfl)) (by unfold Func.isWrapper; first | (rw [if_pos (by decide +kernel)]; kernel_rfl) | (rw [if_neg (by decide +kernel)]; exact ⟨rfl, rfl⟩))
  (fun os started H enc _ => lifted os started H enc)
theorem proved : Rows.FnRestrictionsSaid := over
end Go.Proofs.Ytijpcemcijaeeaa.fnRestrictions
namespace Go.Proofs.Ytijpcemcijaeeaa
set_option linter.unusedVariables false
set_option linter.unusedSimpArgs false
/-- The row, under a short name, for the claim. -/
theorem fnRestrictions_holds : Rows.FnRestrictionsSaid := fnRestrictions.proved
#print axioms fnRestrictions_holds
end Go.Proofs.Ytijpcemcijaeeaa
