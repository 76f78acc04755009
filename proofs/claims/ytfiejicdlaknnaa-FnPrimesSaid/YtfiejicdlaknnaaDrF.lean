/- The draws of tables: each comes to something within its bounds. Conditions: the bounds that stand in each. -/
import Derived.Test.YtfiejicdlaknnaaK1
import Derived.Test.YtfiejicdlaknnaaK4
import Derived.Test.YtfiejicdlaknnaaRes0
import Derived.Test.YtfiejicdlaknnaaK2
import Derived.Test.YtfiejicdlaknnaaPa0
import Derived.Test.YtfiejicdlaknnaaPb0
import Derived.Test.YtfiejicdlaknnaaPb1
import Derived.Test.YtfiejicdlaknnaaK3
import Derived.Test.YtfiejicdlaknnaaPx5
namespace Go.Proofs.Ytfiejicdlaknnaa.Drw
set_option linter.unusedVariables false
set_option linter.unusedSimpArgs false
open Go Go.RowKit Go.Proofs.Ytfiejicdlaknnaa.P Go.Proofs.Ytfiejicdlaknnaa.Bits Go.Proofs.Ytfiejicdlaknnaa.Tab Go.Proofs.YtfiejicdlaknnaaW.PrintWords Go.Proofs.YtfiejicdlaknnaaW.PrintLast Go.Proofs.YtfiejicdlaknnaaW.PrintMore
theorem and255 (X : Int) : 0 ≤ bits .and .i64 X 255 ∧ bits .and .i64 X 255 ≤ 255 := by
 have e : bits .and .i64 X 255 = IntKind.i64.wrap (((BitVec.ofInt 64 X &&& BitVec.ofInt 64 255).toNat : Nat) : Int) := rfl
 have h : (BitVec.ofInt 64 X &&& BitVec.ofInt 64 255).toNat ≤ 255 := by
  rw [BitVec.toNat_and]
  exact Nat.and_le_right
 rw [e, wrap_nat _ (by omega)]
 omega
theorem byte_ok (s0 : List Int) (hl : s0.length ≤ 1048576) (i st : Int) (hi : 0 ≤ i) : ∃ b i' st', spec_l1Byte.f s0 i st = some (b, i', st') ∧ 0 ≤ b ∧ b ≤ 255 ∧ 0 ≤ i' := by
 unfold spec_l1Byte.f
 by_cases h : i < (s0.length : Int)
 ·rw [if_pos h, if_pos hi]
  exact ⟨_, _, _, rfl, (and255 _).1, (and255 _).2, by rw [w64 (by omega) (by omega)]; omega⟩
 ·rw [if_neg h]
  exact ⟨_, _, _, rfl, (and255 _).1, (and255 _).2, hi⟩
theorem below_ok (s0 : List Int) (hl : s0.length ≤ 1048576) (i st a : Int) (hi : 0 ≤ i) (ha : a ≤ 1000000000) : ∃ r i' st', spec_l1Below.f s0 i st a = some (r, i', st') ∧ 0 ≤ i' ∧ 0 ≤ r ∧ (0 < a → r < a) ∧ r ≤ 1000000000 := by
 unfold spec_l1Below.f
 by_cases h0 : a ≤ 0
 ·rw [if_pos h0]
  exact ⟨0, i, st, rfl, hi, by omega, by omega, by omega⟩
 ·rw [if_neg h0]
  by_cases h6 : a ≤ 256
  ·rw [if_pos h6]
   obtain ⟨b, i', st', e, b0, b1, i0⟩ := byte_ok s0 hl i st hi
   rw [e]
   simp only [Option.bind_some]
   rw [if_neg (by omega)]
   have hlt := Int.tmod_lt_of_pos b (show 0 < a by omega)
   exact ⟨_, _, _, rfl, i0, Int.tmod_nonneg _ b0, fun _ => hlt, by omega⟩
  ·rw [if_neg h6]
   obtain ⟨b, i1, s1, e1, b0, b1, j1⟩ := byte_ok s0 hl i st hi
   obtain ⟨c, i2, s2, e2, c0, c1, j2⟩ := byte_ok s0 hl i1 s1 j1
   obtain ⟨d, i3, s3, e3, d0, d1, j3⟩ := byte_ok s0 hl i2 s2 j2
   obtain ⟨g, i4, s4, e4, g0, g1, j4⟩ := byte_ok s0 hl i3 s3 j3
   rw [e1]
   simp only [Option.bind_some]
   rw [e2]
   simp only [Option.bind_some]
   rw [e3]
   simp only [Option.bind_some]
   rw [e4]
   simp only [Option.bind_some]
   rw [if_neg (by omega)]
   have es : wrap64 (wrap64 (wrap64 (wrap64 (b * 16777216) + wrap64 (c * 65536)) + wrap64 (d * 256)) + g) = b * 16777216 + c * 65536 + d * 256 + g := by
    rw [w64 (x := b * 16777216) (by omega) (by omega), w64 (x := c * 65536) (by omega) (by omega), w64 (x := d * 256) (by omega) (by omega), w64 (x := b * 16777216 + c * 65536) (by omega) (by omega), w64 (x := b * 16777216 + c * 65536 + d * 256) (by omega) (by omega), w64 (by omega) (by omega)]
   rw [es]
   have hlt := Int.tmod_lt_of_pos (b * 16777216 + c * 65536 + d * 256 + g) (show 0 < a by omega)
   exact ⟨_, _, _, rfl, j4, Int.tmod_nonneg _ (by omega), fun _ => hlt, by omega⟩
theorem new_loop (l0 : List Int) (hl : l0.length ≤ 1048576) : ∀ (d i K : Nat) (h : Int), i + d = l0.length → d + 1 ≤ K → ∃ h', spec_l1New.l0 K l0 h (i : Int) = some (l0, 0, h') := by
 intro d
 induction d with
 | zero =>
  intro i K h hi hK
  obtain ⟨K, rfl⟩ : ∃ q, K = q + 1 := ⟨K - 1, by omega⟩
  simp only [spec_l1New.l0]
  rw [if_neg (by omega)]
  exact ⟨_, rfl⟩
 | succ d ih =>
  intro i K h hi hK
  obtain ⟨K, rfl⟩ : ∃ q, K = q + 1 := ⟨K - 1, by omega⟩
  simp only [spec_l1New.l0]
  rw [if_pos (by omega)]
  by_cases h4 : (i : Int) < 4000
  ·rw [if_pos h4, if_pos (by omega), w64 (x := (i : Int) + 1) (by omega) (by omega)]
   exact ih (i + 1) K _ (by omega) (by omega)
  ·rw [if_neg h4]
   exact ⟨_, rfl⟩
theorem new_ok (l0 : List Int) (hl : l0.length ≤ 1048576) (K : Nat) (hK : l0.length + 1 ≤ K) : ∃ h', spec_l1New.f K l0 = some (l0, 0, h') := new_loop l0 hl l0.length 0 K _ (by omega) hK
theorem and_full (X m : Int) (h0 : 0 ≤ m) (h1 : m ≤ 9223372036854775807) : 0 ≤ bits .and .i64 X m ∧ bits .and .i64 X m ≤ m := by
 obtain ⟨M, rfl⟩ := Int.eq_ofNat_of_zero_le h0
 have e : bits .and .i64 X (M : Int) = IntKind.i64.wrap (((BitVec.ofInt 64 X &&& BitVec.ofInt 64 (M : Int)).toNat : Nat) : Int) := rfl
 have h : (BitVec.ofInt 64 X &&& BitVec.ofInt 64 (M : Int)).toNat ≤ M := by
  rw [BitVec.toNat_and, ofInt_nat M (by omega)]
  exact Nat.and_le_right
 rw [e, wrap_nat _ (by omega)]
 omega
theorem full_is (n : Nat) (hn : n ≤ 5) : spec_l2Full.f (n : Int) = some (lim (n : Int) - 1) := by
 unfold spec_l2Full.f
 rw [if_pos (by omega), if_pos (by omega), full_at (by omega) (by omega)]
theorem counts : ∀ x : Fin 32, (spec_l2Count.f 8 (x.val : Int)).isSome = true := by decide +kernel
theorem count_more (x r : Int) (h : spec_l2Count.f 8 x = some r) : ∀ j, spec_l2Count.f (8 + j) x = some r
 | 0 => h
 | j + 1 => spec_l2Count.mono _ _ _ (count_more x r h j)
theorem count_ok (x : Nat) (hx : x < 32) (K : Nat) (hK : 8 ≤ K) : ∃ r, spec_l2Count.f K (x : Int) = some r := by
 obtain ⟨r, hr⟩ := Option.isSome_iff_exists.1 (counts ⟨x, hx⟩)
 obtain ⟨j, rfl⟩ : ∃ j, K = 8 + j := ⟨K - 8, by omega⟩
 exact ⟨r, count_more _ _ hr j⟩
def Okw (w : Int) : Prop := 0 ≤ w ∧ w ≤ 4294967296
theorem end_ok (n : Nat) (hn : n ≤ 5) (X : Int) (i st : Int) : ∃ w, (if (n : Int) = 0 then ((spec_l2Full.f (n : Int)).bind fun t => (some ((n : Int), Go.bits .and .i64 (Go.bits .and .i64 X 1) t, i, st))) else ((spec_l2Full.f (n : Int)).bind fun t => (some ((n : Int), Go.bits .and .i64 X t, i, st)))) = some ((n : Int), w, i, st) ∧ Okw w := by
 have hl := lim_le (n : Int)
 rw [full_is n hn]
 simp only [Option.bind_some]
 by_cases h : (n : Int) = 0
 ·rw [if_pos h]
  have := and_full (Go.bits .and .i64 X 1) (lim (n : Int) - 1) (by omega) (by omega)
  exact ⟨_, rfl, this.1, by omega⟩
 ·rw [if_neg h]
  have := and_full X (lim (n : Int) - 1) (by omega) (by omega)
  exact ⟨_, rfl, this.1, by omega⟩
theorem pow32 {n : Nat} (hn : n ≤ 5) : 2 ^ n ≤ 32 := Nat.pow_le_pow_right (by decide) hn
theorem loop0 (n : Nat) (hn : n ≤ 5) (s0 : List Int) (i st : Int) : ∀ (d x K : Nat) (X : Int), x + d = 2 ^ n → d + 12 ≤ K → ∃ w, spec_l2Draw.l0 K (n : Int) X (x : Int) s0 i st = some ((n : Int), w, i, st) ∧ Okw w := by
 have h32 := pow32 hn
 intro d
 induction d with
 | zero =>
  intro x K X hx hK
  obtain ⟨K, rfl⟩ : ∃ q, K = q + 1 := ⟨K - 1, by omega⟩
  simp only [spec_l2Draw.l0]
  rw [if_pos (by omega), shl_two_nat hn, if_neg (by omega)]
  exact end_ok n hn X i st
 | succ d ih =>
  intro x K X hx hK
  obtain ⟨K, rfl⟩ : ∃ q, K = q + 1 := ⟨K - 1, by omega⟩
  obtain ⟨r, hr⟩ := count_ok x (by omega) K (by omega)
  simp only [spec_l2Draw.l0]
  rw [if_pos (by omega), shl_two_nat hn, if_pos (by omega), hr]
  simp only [Option.bind_some]
  rw [w64 (x := (x : Int) + 1) (by omega) (by omega)]
  by_cases hc : wrap64 (2 * r) > (n : Int)
  ·rw [if_pos hc, if_pos (by omega)]
   exact ih (x + 1) K _ (by omega) (by omega)
  ·rw [if_neg hc]
   exact ih (x + 1) K _ (by omega) (by omega)
theorem loop1 (n : Nat) (hn : n ≤ 5) (s0 : List Int) (i st : Int) : ∀ (d x K : Nat) (X : Int), x + d = 2 ^ n → d + 12 ≤ K → ∃ w, spec_l2Draw.l1 K (n : Int) X (x : Int) s0 i st = some ((n : Int), w, i, st) ∧ Okw w := by
 have h32 := pow32 hn
 intro d
 induction d with
 | zero =>
  intro x K X hx hK
  obtain ⟨K, rfl⟩ : ∃ q, K = q + 1 := ⟨K - 1, by omega⟩
  simp only [spec_l2Draw.l1]
  rw [if_pos (by omega), shl_two_nat hn, if_neg (by omega)]
  exact end_ok n hn X i st
 | succ d ih =>
  intro x K X hx hK
  obtain ⟨K, rfl⟩ : ∃ q, K = q + 1 := ⟨K - 1, by omega⟩
  obtain ⟨r, hr⟩ := count_ok x (by omega) K (by omega)
  simp only [spec_l2Draw.l1]
  rw [if_pos (by omega), shl_two_nat hn, if_pos (by omega), hr]
  simp only [Option.bind_some]
  rw [w64 (x := (x : Int) + 1) (by omega) (by omega)]
  by_cases hc : Int.tmod r 2 = 1
  ·rw [if_pos hc, if_pos (by omega)]
   exact ih (x + 1) K _ (by omega) (by omega)
  ·rw [if_neg hc]
   exact ih (x + 1) K _ (by omega) (by omega)
theorem loop2 (n : Nat) (hn : n ≤ 5) (s0 : List Int) (i st q : Int) : ∀ (d x K : Nat) (X : Int), x + d = 2 ^ n → d + 12 ≤ K → ∃ w, spec_l2Draw.l2 K (n : Int) X q (x : Int) s0 i st = some ((n : Int), w, i, st) ∧ Okw w := by
 have h32 := pow32 hn
 intro d
 induction d with
 | zero =>
  intro x K X hx hK
  obtain ⟨K, rfl⟩ : ∃ q, K = q + 1 := ⟨K - 1, by omega⟩
  simp only [spec_l2Draw.l2]
  rw [if_pos (by omega), shl_two_nat hn, if_neg (by omega)]
  exact end_ok n hn X i st
 | succ d ih =>
  intro x K X hx hK
  obtain ⟨K, rfl⟩ : ∃ q, K = q + 1 := ⟨K - 1, by omega⟩
  simp only [spec_l2Draw.l2]
  rw [if_pos (by omega), shl_two_nat hn, if_pos (by omega), w64 (x := (x : Int) + 1) (by omega) (by omega)]
  by_cases hc : Go.bits .and .i64 (x : Int) q = q
  ·rw [if_pos hc, if_pos (by omega)]
   exact ih (x + 1) K _ (by omega) (by omega)
  ·rw [if_neg hc]
   exact ih (x + 1) K _ (by omega) (by omega)
theorem loop3 (n : Nat) (hn : n ≤ 5) (s0 : List Int) (hl : s0.length ≤ 1048576) : ∀ (d x K : Nat) (X i st : Int), 0 ≤ i → x + d = 2 ^ n → d + 12 ≤ K → ∃ w i' st', spec_l2Draw.l3 K (n : Int) X (x : Int) s0 i st = some ((n : Int), w, i', st') ∧ Okw w ∧ 0 ≤ i' := by
 have h32 := pow32 hn
 intro d
 induction d with
 | zero =>
  intro x K X i st hi hx hK
  obtain ⟨K, rfl⟩ : ∃ q, K = q + 1 := ⟨K - 1, by omega⟩
  simp only [spec_l2Draw.l3]
  rw [if_pos (by omega), shl_two_nat hn, if_neg (by omega)]
  obtain ⟨w, e, o⟩ := end_ok n hn X i st
  exact ⟨w, i, st, e, o, hi⟩
 | succ d ih =>
  intro x K X i st hi hx hK
  obtain ⟨K, rfl⟩ : ∃ q, K = q + 1 := ⟨K - 1, by omega⟩
  obtain ⟨r, i1, s1, e1, j1, -⟩ := below_ok s0 hl i st 2 hi (by omega)
  simp only [spec_l2Draw.l3]
  rw [if_pos (by omega), shl_two_nat hn, if_pos (by omega), e1]
  simp only [Option.bind_some]
  rw [if_pos (by omega), w64 (x := (x : Int) + 1) (by omega) (by omega)]
  exact ih (x + 1) K _ i1 s1 j1 (by omega) (by omega)
theorem variable_ok (n : Nat) (hn : n ≤ 5) (q : Int) (hq : 0 ≤ q) : ∀ (d x K : Nat) (X : Int), x + d = 2 ^ n → d + 2 ≤ K → ∃ w, spec_l2Variable.l0 K (n : Int) q X (x : Int) = some w := by
 have h32 := pow32 hn
 intro d
 induction d with
 | zero =>
  intro x K X hx hK
  obtain ⟨K, rfl⟩ : ∃ q, K = q + 1 := ⟨K - 1, by omega⟩
  simp only [spec_l2Variable.l0]
  rw [if_pos (by omega), shl_two_nat hn, if_neg (by omega)]
  exact ⟨X, rfl⟩
 | succ d ih =>
  intro x K X hx hK
  obtain ⟨K, rfl⟩ : ∃ q, K = q + 1 := ⟨K - 1, by omega⟩
  simp only [spec_l2Variable.l0]
  rw [if_pos (by omega), shl_two_nat hn, if_pos (by omega), if_pos hq, w64 (x := (x : Int) + 1) (by omega) (by omega)]
  by_cases hc : Go.bits .and .i64 (shr .i64 (x : Int) q) 1 = 1
  ·rw [if_pos hc, if_pos (by omega)]
   exact ih (x + 1) K _ (by omega) (by omega)
  ·rw [if_neg hc]
   exact ih (x + 1) K _ (by omega) (by omega)
theorem mx_le (a : Int) (h : a ≤ 5) : mx 1 a ≤ 5 := by
 unfold mx
 split <;> omega
theorem draw_ok (n : Nat) (hn : n ≤ 5) (s0 : List Int) (hl : s0.length ≤ 1048576) (i st : Int) (hi : 0 ≤ i) (K : Nat) (hK : 60 ≤ K) : ∃ w i' st', spec_l2Draw.f K s0 i st (n : Int) = some ((n : Int), w, i', st') ∧ Okw w ∧ 0 ≤ i' := by
 have h32 := pow32 hn
 unfold spec_l2Draw.f
 obtain ⟨r, i1, s1, e1, j1, r0, r1, -⟩ := below_ok s0 hl i st 6 hi (by omega)
 rw [e1]
 simp only [Option.bind_some]
 by_cases h0 : r = 0
 ·rw [if_pos h0]
  obtain ⟨q, i2, s2, e2, j2, q0, -⟩ := below_ok s0 hl i1 s1 (mx 1 (n : Int)) j1 (by have := mx_le (n : Int) (by omega); omega)
  rw [e2]
  simp only [Option.bind_some]
  obtain ⟨X, hX⟩ := variable_ok n hn q q0 (2 ^ n) 0 K 0 (by omega) (by omega)
  have hX' : spec_l2Variable.f K (n : Int) q = some X := hX
  rw [hX']
  simp only [Option.bind_some]
  obtain ⟨w, e, o⟩ := end_ok n hn X i2 s2
  exact ⟨w, i2, s2, e, o, j2⟩
 ·rw [if_neg h0]
  by_cases h1 : r = 1
  ·rw [if_pos h1]
   obtain ⟨w, e, o⟩ := loop0 n hn s0 i1 s1 (2 ^ n) 0 K 0 (by omega) (by omega)
   exact ⟨w, i1, s1, e, o, j1⟩
  ·rw [if_neg h1]
   by_cases h2 : r = 2
   ·rw [if_pos h2]
    obtain ⟨w, e, o⟩ := loop1 n hn s0 i1 s1 (2 ^ n) 0 K 0 (by omega) (by omega)
    exact ⟨w, i1, s1, e, o, j1⟩
   ·rw [if_neg h2]
    by_cases h3 : r = 3
    ·rw [if_pos h3, if_pos (by omega), shl_two_nat hn]
     obtain ⟨q, i2, s2, e2, j2, -⟩ := below_ok s0 hl i1 s1 ((2 ^ n : Nat) : Int) j1 (by omega)
     rw [e2]
     simp only [Option.bind_some]
     obtain ⟨w, e, o⟩ := loop2 n hn s0 i2 s2 q (2 ^ n) 0 K 0 (by omega) (by omega)
     exact ⟨w, i2, s2, e, o, j2⟩
    ·rw [if_neg h3]
     exact loop3 n hn s0 hl (2 ^ n) 0 K 0 i1 s1 j1 (by omega) (by omega)
def Int64 (x : Int) : Prop := -9223372036854775808 ≤ x ∧ x ≤ 9223372036854775807
theorem picks1 : ∀ r : Fin 5, -9223372036854775808 ≤ rd [(-1), 6, 5, 0, 9223372036854775807] (r.val : Int) ∧ rd [(-1), 6, 5, 0, 9223372036854775807] (r.val : Int) ≤ 9223372036854775807 := by decide +kernel
theorem picks2 : ∀ r : Fin 5, -9223372036854775808 ≤ rd [(-1), 0, 1, 65536, 9223372036854775807] (r.val : Int) ∧ rd [(-1), 0, 1, 65536, 9223372036854775807] (r.val : Int) ≤ 9223372036854775807 := by decide +kernel
theorem any_ok (s0 : List Int) (hl : s0.length ≤ 1048576) (i st : Int) (hi : 0 ≤ i) (K : Nat) (hK : 60 ≤ K) : ∃ n w i' st', spec_l2Any.f K s0 i st = some (n, w, i', st') ∧ Int64 n ∧ Int64 w ∧ 0 ≤ i' := by
 unfold spec_l2Any.f
 obtain ⟨r, i1, s1, e1, j1, r0, r1, -⟩ := below_ok s0 hl i st 5 hi (by omega)
 rw [e1]
 simp only [Option.bind_some]
 have hr := r1 (by omega)
 obtain ⟨n, rfl⟩ := Int.eq_ofNat_of_zero_le r0
 obtain ⟨w, i2, s2, e2, o2, j2⟩ := draw_ok n (by omega) s0 hl i1 s1 j1 K hK
 obtain ⟨w0, w1⟩ := o2
 rw [e2]
 simp only [Option.bind_some]
 obtain ⟨q, i3, s3, e3, j3, -⟩ := below_ok s0 hl i2 s2 14 j2 (by omega)
 rw [e3]
 simp only [Option.bind_some]
 by_cases h0 : q = 0
 ·rw [if_pos h0]
  unfold spec_l1PickInt.f
  obtain ⟨p, i4, s4, e4, j4, p0, p1, -⟩ := below_ok s0 hl i3 s3 5 j3 (by omega)
  have hlen : (([(-1), 6, 5, 0, 9223372036854775807] : List Int).length : Int) = 5 := rfl
  rw [hlen, e4]
  simp only [Option.bind_some]
  have hp := p1 (by omega)
  rw [if_pos p0, if_pos hp]
  simp only [Option.bind_some]
  obtain ⟨P, rfl⟩ := Int.eq_ofNat_of_zero_le p0
  exact ⟨_, _, _, _, rfl, picks1 ⟨P, by omega⟩, ⟨by omega, by omega⟩, j4⟩
 ·rw [if_neg h0]
  by_cases h1 : q = 1
  ·rw [if_pos h1]
   unfold spec_l1PickInt.f
   obtain ⟨p, i4, s4, e4, j4, p0, p1, -⟩ := below_ok s0 hl i3 s3 5 j3 (by omega)
   have hlen : (([(-1), 0, 1, 65536, 9223372036854775807] : List Int).length : Int) = 5 := rfl
   rw [hlen, e4]
   simp only [Option.bind_some]
   have hp := p1 (by omega)
   rw [if_pos p0, if_pos hp]
   simp only [Option.bind_some]
   obtain ⟨P, rfl⟩ := Int.eq_ofNat_of_zero_le p0
   exact ⟨_, _, _, _, rfl, ⟨by omega, by omega⟩, picks2 ⟨P, by omega⟩, j4⟩
  ·rw [if_neg h1]
   exact ⟨_, _, _, _, rfl, ⟨by omega, by omega⟩, ⟨by omega, by omega⟩, j3⟩
end Go.Proofs.Ytfiejicdlaknnaa.Drw
