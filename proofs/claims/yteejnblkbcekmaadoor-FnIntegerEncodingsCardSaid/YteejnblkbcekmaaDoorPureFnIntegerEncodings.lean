/- The plain law of FnIntegerEncodings: what each draw and each encoding comes to. No conditions but those that stand in the theorems. -/
import Derived.Test.YteejnblkbcekmaaDoorDrw
import Derived.Test.YteejnblkbcekmaaDoorFix
import Derived.Test.YteejnblkbcekmaaDoorVrt
import Derived.Test.YteejnblkbcekmaaDoorHxr
import Derived.Test.YteejnblkbcekmaaDoorPin
import Derived.Test.YteejnblkbcekmaaDoorEnc
import Derived.Lib.ItoaLen
import Derived.Test.YteejnblkbcekmaaDoorPb1
import Derived.Test.YteejnblkbcekmaaDoorPin
namespace Go.Proofs.YteejnblkbcekmaaDoor.Num
set_option linter.unusedVariables false
set_option linter.unusedSimpArgs false
open Go Go.RowKit Go.Proofs.YteejnblkbcekmaaDoor.P Go.Proofs.YteejnblkbcekmaaDoor.Bits Go.Proofs.YteejnblkbcekmaaDoorW.PrintWords Go.Proofs.YteejnblkbcekmaaDoorW.PrintLast Go.Proofs.YteejnblkbcekmaaDoorW.PrintMore

theorem digits_ten (u : Nat) (h : 10 ^ 9 ≤ u) : 10 ≤ (Lib.decDigits u).length := by
  rw [Lib.decDigits_length]
  rcases Nat.lt_or_ge (Lib.nDigits u) 10 with q | q
  · exfalso
    have h1 := Lib.lt_pow_nDigits u
    have h2 : 10 ^ Lib.nDigits u ≤ 10 ^ 9 := Nat.pow_le_pow_right (by decide) (by omega)
    omega
  · exact q
theorem impl_great (v : Int) (h : 10 ^ 9 ≤ v.natAbs) : implP (Lib.itoa v) = (0, false) := by
  have h10 := digits_ten v.natAbs h
  obtain ⟨a1, -⟩ := dec_fold v.natAbs
  obtain ⟨b, r, hbr⟩ := dec_ne v.natAbs
  have hb : bodyL (Lib.itoa v) = Lib.decDigits v.natAbs := by
    by_cases hneg : v < 0
    · have e : Lib.itoa v = 45 :: Lib.decDigits v.natAbs := by
        unfold Lib.itoa
        rw [if_pos hneg]
      unfold bodyL
      rw [e, if_pos (show (45 :: Lib.decDigits v.natAbs).head? = some 45 from rfl)]
      rfl
    · have e : Lib.itoa v = Lib.decDigits v.natAbs := by
        unfold Lib.itoa
        rw [if_neg hneg, show v.toNat = v.natAbs by omega]
      unfold bodyL
      rw [e, if_neg]
      rw [hbr]
      intro q
      have h45 : b = 45 := by simpa using q
      have := a1 b (by rw [hbr]; exact List.mem_cons_self)
      rw [h45] at this
      revert this
      decide
  unfold implP
  rw [hb, if_neg (by omega)]

theorem law_calls (A0 : Option Addr) (c0 : Nat) (l0 : List Int) (w : World) (hl : l0.length ≤ 1048576) (hr0 : Kd.C (Kd.int .u8) w A0 l0.length l0) (hc0 : l0.length ≤ c0) (HT : Aside0 (TB w)) :
    Calls Tryd.prog 5 #[.slice A0 l0.length c0] w fun e w' => e = .returned (.bool true) ∧ Below w.heap.size w w' := by
  obtain ⟨n, n1, -, -⟩ := draw_varint l0 hl (l0.length + 200) (by omega)
  obtain ⟨t, t1, t2⟩ := draw_hex l0 hl (l0.length + 200) (by omega)
  obtain ⟨v, wd, v1, v2, v3, w1, w2⟩ := draw_fixed l0 hl (l0.length + 200) (by omega)
  obtain ⟨s, x, kk, s1, s2, s3, s4⟩ := varint_round n t t2 (l0.length + 200) (by omega)
  obtain ⟨f, y, is, g, f1, f2, f3, f4, f5⟩ := fixed_round v wd v2 v3 w1 w2 t t2 (l0.length + 200) (by omega)
  obtain ⟨h, h1, h2, h3⟩ := hex_round t t2 (l0.length + 200) (by omega)
  have hbig : laws_big.f l0 = some false := by
    unfold laws_big.f
    rw [decide_eq_false (by omega)]
  have d1 := fmt_impl v v2 v3
  have d2 := fmt_spec v v2 v3 (l0.length + 200) (by omega)
  have hlen := Lib.itoa_length_le v v2 v3
  have hbl : (bs (Lib.itoa v)).data.toList = Lib.itoa v := rfl
  have hbsz : (bs (Lib.itoa v)).size = (Lib.itoa v).length := by
    show (Lib.itoa v).toArray.size = _
    simp
  have d3 := impl_parse (bs (Lib.itoa v)) (by omega) (l0.length + 200) (by omega)
  rw [hbl] at d3
  have h9 : (10 : Nat) ^ 9 = 1000000000 := by decide
  by_cases hv : v.natAbs < 10 ^ 9
  · rw [(both_at v hv).2] at d3
    rw [h9] at hv
    exact enc_calls (l0.length + 200) A0 c0 l0 w n x kk v wd y v t s f g h (bs (Lib.itoa v)) is true hr0 hc0 HT hbig n1 t1 s1 (by omega) s3 s4 v1 f1 (by omega) f3 f4 f5 h1 h2 h3 (by omega) d1 d3 d2 (Or.inl ⟨rfl, rfl, by omega, by omega⟩)
  · rw [impl_great v (by omega)] at d3
    rw [h9] at hv
    refine enc_calls (l0.length + 200) A0 c0 l0 w n x kk v wd y 0 t s f g h (bs (Lib.itoa v)) is false hr0 hc0 HT hbig n1 t1 s1 (by omega) s3 s4 v1 f1 (by omega) f3 f4 f5 h1 h2 h3 (by omega) d1 d3 d2 (Or.inr ?_)
    by_cases hneg : v < 0
    · exact Or.inl ⟨rfl, by omega⟩
    · exact Or.inr ⟨rfl, by omega, by omega⟩

set_option maxRecDepth 100000 in
theorem big_calls (A0 : Option Addr) (c0 : Nat) (l0 : List Int) (w : World) (hl : 1048576 < l0.length) (hr0 : Kd.C (Kd.int .u8) w A0 l0.length l0) (hc0 : l0.length ≤ c0) :
    Calls Tryd.prog 5 #[.slice A0 l0.length c0] w fun e w' => e = .returned (.bool true) ∧ Below w.heap.size w w' := by
  have hbig : laws_big.f l0 = some true := by
    unfold laws_big.f
    rw [decide_eq_true (by omega)]
  have HR0 := Aside0.mk hr0
  have HC0 := Aside0.mk hc0
  have HB := Aside0.mk (Below.refl w.heap.size w)
  have A2 := Aside0.mk hbig
  clear hr0 hc0 hbig hl
  go_enter Tryd.func5, Tryd.ntmps5
  go_wp2_with (first | ((with_reducible refine gate_callee (f := 10) rfl ?_); refine goesL_ (some 20) rfl rfl Tryd.func10 (by kernel_rfl) rfl #[.slice A0 l0.length c0] rfl (by (try simp only [List.map_toArray, List.map_cons, List.map_nil]); first | done | rfl | (simp only [List.length_drop, List.length_take]; rfl)) ?_; (with_reducible refine (laws_big.calls _ _ l0 true _ ?side1 ?side2 A2.out).mono ?_); (case side1 => repeat (first | exact (Kd.C_below HR0.out HB.out) | exact HR0.out | (with_reducible refine Kd.C_alloc ?_ _) | (with_reducible refine Kd.C_drewN ?_ _) | (with_reducible refine Kd.C_drew ?_))); (case side2 => exact HC0.out); rintro e w' ⟨rfl, ⟨nd15, rfl⟩⟩; refine ⟨_, rfl, ?_⟩))
  go_ret
  exact ⟨rfl, by repeat (first | (with_reducible first | exact HB.out | apply below_alloc | apply pw_below_drewN | apply below_drew1) | exact HB.out)⟩
theorem law_walk (a0 : Option Addr) (len0 cap0 : Nat) (z0 : List Int) (w : World) (w0 : (a0 = none ∧ len0 = 0 ∧ cap0 = 0 ∧ z0 = []) ∨ ∃ x, a0 = some x ∧ len0 ≤ cap0 ∧ cap0 ≤ maxLen ∧ z0.length = cap0 ∧ (∀ i, i < z0.length → w.cell? (x.add i) = some (.int .u8 (z0.getD i 0))) ∧ ∀ n ∈ z0, (Lit.int .u8 n).wf = true) (HT : Aside0 (TB w)) :
    Calls Tryd.prog 5 #[.slice a0 len0 cap0] w fun e w' => e = .returned (.bool true) ∧ Below w.heap.size w w' := by
  obtain ⟨l0, rfl, hr0, hm0, hw0, hc0⟩ := ReadsInt.ofRowC w0
  by_cases hl : l0.length ≤ 1048576
  · exact law_calls _ _ l0 w hl (Kd.C_of_reads (d := (0 : Int)) (h1 := fun _ => rfl) hr0) hc0 HT
  · exact big_calls _ _ l0 w (by omega) (Kd.C_of_reads (d := (0 : Int)) (h1 := fun _ => rfl) hr0) hc0
end Go.Proofs.YteejnblkbcekmaaDoor.Num
