/- The draws of numbers and texts: each comes to something within its bounds. Conditions: the bounds that stand in each. -/
import Derived.Test.YteejnblkbcekmaaDoorBits
import Derived.Test.YteejnblkbcekmaaDoorPn4
import Derived.Test.YteejnblkbcekmaaDoorPn1
import Derived.Test.YteejnblkbcekmaaDoorPn2
import Derived.Test.YteejnblkbcekmaaDoorPn3
import Derived.Test.YteejnblkbcekmaaDoorPn4
namespace Go.Proofs.YteejnblkbcekmaaDoor.Num
set_option linter.unusedVariables false
set_option linter.unusedSimpArgs false
open Go Go.RowKit Go.Proofs.YteejnblkbcekmaaDoor.P Go.Proofs.YteejnblkbcekmaaDoor.Bits Go.Proofs.YteejnblkbcekmaaDoorW.PrintWords Go.Proofs.YteejnblkbcekmaaDoorW.PrintLast Go.Proofs.YteejnblkbcekmaaDoorW.PrintMore

theorem and255 (X : Int) : 0 ≤ bits .and .i64 X 255 ∧ bits .and .i64 X 255 ≤ 255 := by
  have e : bits .and .i64 X 255 = IntKind.i64.wrap (((BitVec.ofInt 64 X &&& BitVec.ofInt 64 255).toNat : Nat) : Int) := rfl
  have h : (BitVec.ofInt 64 X &&& BitVec.ofInt 64 255).toNat ≤ 255 := by
    rw [BitVec.toNat_and]
    exact Nat.and_le_right
  rw [e, wrap_nat _ (by omega)]
  omega
theorem byte_ok (s0 : List Int) (hl : s0.length ≤ 1048576) (i st : Int) (hi : 0 ≤ i) : ∃ b i' st', spec_l1Byte.f s0 i st = some (b, i', st') ∧ 0 ≤ b ∧ b ≤ 255 ∧ 0 ≤ i' := by
  unfold spec_l1Byte.f
  by_cases h : i < (s0.length : Int)
  · rw [if_pos h, if_pos hi]
    exact ⟨_, _, _, rfl, (and255 _).1, (and255 _).2, by rw [w64 (by omega) (by omega)]; omega⟩
  · rw [if_neg h]
    exact ⟨_, _, _, rfl, (and255 _).1, (and255 _).2, hi⟩
theorem below_ok (s0 : List Int) (hl : s0.length ≤ 1048576) (i st a : Int) (hi : 0 ≤ i) (ha : a ≤ 1000000000) : ∃ r i' st', spec_l1Below.f s0 i st a = some (r, i', st') ∧ 0 ≤ i' ∧ 0 ≤ r ∧ (0 < a → r < a) ∧ r ≤ 1000000000 := by
  unfold spec_l1Below.f
  by_cases h0 : a ≤ 0
  · rw [if_pos h0]
    exact ⟨0, i, st, rfl, hi, by omega, by omega, by omega⟩
  · rw [if_neg h0]
    by_cases h6 : a ≤ 256
    · rw [if_pos h6]
      obtain ⟨b, i', st', e, b0, b1, i0⟩ := byte_ok s0 hl i st hi
      rw [e]
      simp only [Option.bind_some]
      rw [if_neg (by omega)]
      have hlt := Int.tmod_lt_of_pos b (show 0 < a by omega)
      exact ⟨_, _, _, rfl, i0, Int.tmod_nonneg _ b0, fun _ => hlt, by omega⟩
    · rw [if_neg h6]
      obtain ⟨b, i1, s1, e1, b0, b1, j1⟩ := byte_ok s0 hl i st hi
      obtain ⟨c, i2, s2, e2, c0, c1, j2⟩ := byte_ok s0 hl i1 s1 j1
      obtain ⟨d, i3, s3, e3, d0, d1, j3⟩ := byte_ok s0 hl i2 s2 j2
      obtain ⟨g, i4, s4, e4, g0, g1, j4⟩ := byte_ok s0 hl i3 s3 j3
      rw [e1]
      simp only [Option.bind_some]
      rw [e2]
      simp only [Option.bind_some]
      rw [e3]
      simp only [Option.bind_some]
      rw [e4]
      simp only [Option.bind_some]
      rw [if_neg (by omega)]
      have es : wrap64 (wrap64 (wrap64 (wrap64 (b * 16777216) + wrap64 (c * 65536)) + wrap64 (d * 256)) + g) = b * 16777216 + c * 65536 + d * 256 + g := by
        rw [w64 (x := b * 16777216) (by omega) (by omega), w64 (x := c * 65536) (by omega) (by omega), w64 (x := d * 256) (by omega) (by omega), w64 (x := b * 16777216 + c * 65536) (by omega) (by omega), w64 (x := b * 16777216 + c * 65536 + d * 256) (by omega) (by omega), w64 (by omega) (by omega)]
      rw [es]
      have hlt := Int.tmod_lt_of_pos (b * 16777216 + c * 65536 + d * 256 + g) (show 0 < a by omega)
      exact ⟨_, _, _, rfl, j4, Int.tmod_nonneg _ (by omega), fun _ => hlt, by omega⟩

theorem picks : ∀ r : Fin 17, -9223372036854775808 ≤ rd [(-1), 0, 127, 128, 255, 256, 16383, 16384, 65535, 65536, 562949953421311, 562949953421312, 999999999, 1000000000, (-999999999), 9223372036854775807, (-9223372036854775808)] (r.val : Int) ∧ rd [(-1), 0, 127, 128, 255, 256, 16383, 16384, 65535, 65536, 562949953421311, 562949953421312, 999999999, 1000000000, (-999999999), 9223372036854775807, (-9223372036854775808)] (r.val : Int) ≤ 9223372036854775807 := by decide +kernel
theorem num_ok (s0 : List Int) (hl : s0.length ≤ 1048576) (i st : Int) (hi : 0 ≤ i) : ∃ n i' st', spec_l1Num.f s0 i st = some (n, i', st') ∧ -9223372036854775808 ≤ n ∧ n ≤ 9223372036854775807 ∧ 0 ≤ i' := by
  unfold spec_l1Num.f
  obtain ⟨r, i1, s1, e1, j1, r0, r1, -⟩ := below_ok s0 hl i st 8 hi (by omega)
  rw [e1]
  simp only [Option.bind_some]
  by_cases h0 : r = 0
  · rw [if_pos h0]
    unfold spec_l1PickInt.f
    obtain ⟨q, i2, s2, e2, j2, q0, q1, -⟩ := below_ok s0 hl i1 s1 17 j1 (by omega)
    have hlen : (([(-1), 0, 127, 128, 255, 256, 16383, 16384, 65535, 65536, 562949953421311, 562949953421312, 999999999, 1000000000, (-999999999), 9223372036854775807, (-9223372036854775808)] : List Int).length : Int) = 17 := rfl
    rw [hlen, e2]
    simp only [Option.bind_some]
    have hq := q1 (by omega)
    rw [if_pos q0, if_pos hq]
    simp only [Option.bind_some]
    obtain ⟨Q, rfl⟩ := Int.eq_ofNat_of_zero_le q0
    have hp := picks ⟨Q, by omega⟩
    exact ⟨_, _, _, rfl, hp.1, hp.2, j2⟩
  · rw [if_neg h0]
    by_cases h1 : r = 1
    · rw [if_pos h1]
      obtain ⟨p, i2, s2, e2, j2, p0, p1, -⟩ := below_ok s0 hl i1 s1 1000000000 j1 (by omega)
      obtain ⟨q, i3, s3, e3, j3, q0, q1, -⟩ := below_ok s0 hl i2 s2 1000000000 j2 (by omega)
      rw [e2]
      simp only [Option.bind_some]
      rw [e3]
      simp only [Option.bind_some]
      have hp := p1 (by omega)
      have hq := q1 (by omega)
      have hm0 := Int.mul_nonneg p0 q0
      have hm1 : p * q ≤ 1000000000 * 1000000000 := Int.mul_le_mul (by omega) (by omega) q0 (by omega)
      rw [w64 (by omega) (by omega)]
      exact ⟨_, _, _, rfl, by omega, by omega, j3⟩
    · rw [if_neg h1]
      by_cases h2 : r = 2
      · rw [if_pos h2]
        obtain ⟨p, i2, s2, e2, j2, p0, p1, -⟩ := below_ok s0 hl i1 s1 100000 j1 (by omega)
        rw [e2]
        simp only [Option.bind_some]
        have hp := p1 (by omega)
        rw [w64 (by omega) (by omega)]
        exact ⟨_, _, _, rfl, by omega, by omega, j2⟩
      · rw [if_neg h2]
        obtain ⟨p, i2, s2, e2, j2, p0, p1, -⟩ := below_ok s0 hl i1 s1 70000 j1 (by omega)
        rw [e2]
        simp only [Option.bind_some]
        have hp := p1 (by omega)
        exact ⟨_, _, _, rfl, by omega, by omega, j2⟩

theorem new_loop (l0 : List Int) (hl : l0.length ≤ 1048576) : ∀ (d i K : Nat) (h : Int), i + d = l0.length → d + 1 ≤ K → ∃ h', spec_l1New.l0 K l0 h (i : Int) = some (l0, 0, h') := by
  intro d
  induction d with
  | zero =>
    intro i K h hi hK
    obtain ⟨K, rfl⟩ : ∃ q, K = q + 1 := ⟨K - 1, by omega⟩
    simp only [spec_l1New.l0]
    rw [if_neg (by omega)]
    exact ⟨_, rfl⟩
  | succ d ih =>
    intro i K h hi hK
    obtain ⟨K, rfl⟩ : ∃ q, K = q + 1 := ⟨K - 1, by omega⟩
    simp only [spec_l1New.l0]
    rw [if_pos (by omega)]
    by_cases h4 : (i : Int) < 4000
    · rw [if_pos h4, if_pos (by omega), w64 (x := (i : Int) + 1) (by omega) (by omega)]
      exact ih (i + 1) K _ (by omega) (by omega)
    · rw [if_neg h4]
      exact ⟨_, rfl⟩
theorem new_ok (l0 : List Int) (hl : l0.length ≤ 1048576) (K : Nat) (hK : l0.length + 1 ≤ K) : ∃ h', spec_l1New.f K l0 = some (l0, 0, h') := new_loop l0 hl l0.length 0 K _ (by omega) hK

theorem text_loop (s0 : List Int) (hl : s0.length ≤ 1048576) (sty : Int) : ∀ (c K : Nat) (xs : List Int) (i st : Int), 0 ≤ i → c + 1 ≤ K → xs.length + c ≤ 1000 → c ≤ 1000 →
    ∃ ys i' st', spec_l1Text.l0 K xs sty (c : Int) s0 i st = some (strOfNums ys, i', st') ∧ ys.length = xs.length + c := by
  intro c
  induction c with
  | zero =>
    intro K xs i st hi hK hx _
    obtain ⟨K, rfl⟩ : ∃ q, K = q + 1 := ⟨K - 1, by omega⟩
    simp only [spec_l1Text.l0]
    rw [if_neg (by omega)]
    exact ⟨xs, _, _, rfl, by omega⟩
  | succ c ih =>
    intro K xs i st hi hK hx hc
    obtain ⟨K, rfl⟩ : ∃ q, K = q + 1 := ⟨K - 1, by omega⟩
    obtain ⟨b, i1, s1, e1, b0, b1, j1⟩ := byte_ok s0 hl i st hi
    simp only [spec_l1Text.l0]
    rw [if_pos (by omega), e1]
    simp only [Option.bind_some]
    have hw : wrap64 (((c + 1 : Nat) : Int) - 1) = (c : Int) := by
      rw [w64 (by omega) (by omega)]
      omega
    rw [hw]
    have step : ∀ v : Int, ∃ ys i' st', spec_l1Text.l0 K (xs ++ [v]) sty (c : Int) s0 i1 s1 = some (strOfNums ys, i', st') ∧ ys.length = xs.length + (c + 1) := by
      intro v
      obtain ⟨ys, i', st', h1, h2⟩ := ih K (xs ++ [v]) i1 s1 j1 (by omega) (by rw [List.length_append, List.length_singleton]; omega) (by omega)
      exact ⟨ys, i', st', h1, by rw [h2, List.length_append, List.length_singleton]; omega⟩
    have hlen : xs.length < 140737488355328 := by omega
    by_cases h1 : sty = 1
    · rw [if_pos h1, if_neg (by omega), if_pos hlen]
      exact step _
    · rw [if_neg h1]
      by_cases h2 : sty = 2
      · rw [if_pos h2, if_pos hlen]
        exact step _
      · rw [if_neg h2, if_pos hlen]
        exact step _

theorem draw_varint (l0 : List Int) (hl : l0.length ≤ 1048576) (K : Nat) (hK : l0.length + 1 ≤ K) : ∃ n, spec_DrawEncodeVarint.f K l0 = some n ∧ -9223372036854775808 ≤ n ∧ n ≤ 9223372036854775807 := by
  unfold spec_DrawEncodeVarint.f
  obtain ⟨h, e⟩ := new_ok l0 hl K hK
  rw [e]
  simp only [Option.bind_some]
  obtain ⟨n, i, st, e2, n0, n1, -⟩ := num_ok l0 hl 0 h (by omega)
  rw [e2]
  exact ⟨n, rfl, n0, n1⟩
theorem draw_fixed (l0 : List Int) (hl : l0.length ≤ 1048576) (K : Nat) (hK : l0.length + 1 ≤ K) : ∃ v wd, spec_DrawEncodeFixed.f K l0 = some (v, wd) ∧ -9223372036854775808 ≤ v ∧ v ≤ 9223372036854775807 ∧ -1 ≤ wd ∧ wd ≤ 8 := by
  unfold spec_DrawEncodeFixed.f
  obtain ⟨h, e⟩ := new_ok l0 hl K hK
  rw [e]
  simp only [Option.bind_some]
  obtain ⟨n, i, st, e2, n0, n1, j⟩ := num_ok l0 hl 0 h (by omega)
  rw [e2]
  simp only [Option.bind_some]
  obtain ⟨r, i1, s1, e3, -, r0, r1, -⟩ := below_ok l0 hl i st 10 j (by omega)
  rw [e3]
  simp only [Option.bind_some]
  have hr := r1 (by omega)
  rw [w64 (by omega) (by omega)]
  exact ⟨n, _, rfl, n0, n1, by omega, by omega⟩
theorem draw_hex (l0 : List Int) (hl : l0.length ≤ 1048576) (K : Nat) (hK : l0.length + 100 ≤ K) : ∃ s, spec_DrawEncodeHex.f K l0 = some s ∧ s.size ≤ 40 := by
  unfold spec_DrawEncodeHex.f
  obtain ⟨h, e⟩ := new_ok l0 hl K (by omega)
  rw [e]
  simp only [Option.bind_some]
  unfold spec_l1Text.f
  obtain ⟨r, i1, s1, e1, j1, r0, r1, -⟩ := below_ok l0 hl 0 h 4 (by omega) (by omega)
  rw [e1]
  simp only [Option.bind_some]
  have h41 : wrap64 ((40 : Int) + 1) = 41 := by rw [w64 (by omega) (by omega)]; rfl
  obtain ⟨c, i2, s2, e2, j2, c0, c1, -⟩ := below_ok l0 hl i1 s1 41 j1 (by omega)
  rw [h41, e2]
  simp only [Option.bind_some]
  have hc := c1 (by omega)
  obtain ⟨C, rfl⟩ := Int.eq_ofNat_of_zero_le c0
  obtain ⟨ys, i3, s3, e3, hy⟩ := text_loop l0 hl r C K [] i2 s2 j2 (by omega) (by simp; omega) (by omega)
  rw [e3]
  exact ⟨_, rfl, by rw [strOfNums_size, hy]; simp; omega⟩
end Go.Proofs.YteejnblkbcekmaaDoor.Num
