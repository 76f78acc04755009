/- The draws of tables: each comes to something within its bounds. Conditions: the bounds that stand in each. -/
import Derived.Test.YtijpcemcijaeeaaBits
import Derived.Test.YtijpcemcijaeeaaK7
import Derived.Test.YtijpcemcijaeeaaPb9
import Derived.Test.YtijpcemcijaeeaaPb8
import Derived.Test.YtijpcemcijaeeaaPb7
import Derived.Test.YtijpcemcijaeeaaK6
import Derived.Test.YtijpcemcijaeeaaPa0
import Derived.Test.YtijpcemcijaeeaaPb5
import Derived.Test.YtijpcemcijaeeaaPb6
import Derived.Test.YtijpcemcijaeeaaK8
import Derived.Test.YtijpcemcijaeeaaP0
import Derived.Deep.RegionLaw
import Derived.ArgAppend
import Derived.Deep.LoopGhost

namespace Go.Proofs.Ytijpcemcijaeeaa.Drw
set_option linter.unusedVariables false
set_option linter.unusedSimpArgs false
open Go Go.RowKit Go.Proofs.Ytijpcemcijaeeaa.P Go.Proofs.Ytijpcemcijaeeaa.Bits Go.Proofs.Ytijpcemcijaeeaa.Tab Go.Proofs.YtijpcemcijaeeaaW.PrintWords Go.Proofs.YtijpcemcijaeeaaW.PrintLast Go.Proofs.YtijpcemcijaeeaaW.PrintMore

theorem and255 (X : Int) : 0 ≤ bits .and .i64 X 255 ∧ bits .and .i64 X 255 ≤ 255 := by
 have e : bits .and .i64 X 255 = IntKind.i64.wrap (((BitVec.ofInt 64 X &&& BitVec.ofInt 64 255).toNat : Nat) : Int) := rfl
 have h : (BitVec.ofInt 64 X &&& BitVec.ofInt 64 255).toNat ≤ 255 := by
  rw [BitVec.toNat_and]
  exact Nat.and_le_right
 rw [e, wrap_nat _ (by omega)]
 omega
theorem byte_ok (s0 : List Int) (hl : s0.length ≤ 1048576) (i st : Int) (hi : 0 ≤ i) : ∃ b i' st', spec_l1Byte.f s0 i st = some (b, i', st') ∧ 0 ≤ b ∧ b ≤ 255 ∧ 0 ≤ i' := by
 unfold spec_l1Byte.f
 by_cases h : i < (s0.length : Int)
 ·rw [if_pos h, if_pos hi]
  exact ⟨_, _, _, rfl, (and255 _).1, (and255 _).2, by rw [w64 (by omega) (by omega)]; omega⟩
 ·rw [if_neg h]
  exact ⟨_, _, _, rfl, (and255 _).1, (and255 _).2, hi⟩
theorem below_ok (s0 : List Int) (hl : s0.length ≤ 1048576) (i st a : Int) (hi : 0 ≤ i) (ha : a ≤ 1000000000) : ∃ r i' st', spec_l1Below.f s0 i st a = some (r, i', st') ∧ 0 ≤ i' ∧ 0 ≤ r ∧ (0 < a → r < a) ∧ r ≤ 1000000000 := by
 unfold spec_l1Below.f
 by_cases h0 : a ≤ 0
 ·rw [if_pos h0]
  exact ⟨0, i, st, rfl, hi, by omega, by omega, by omega⟩
 ·rw [if_neg h0]
  by_cases h6 : a ≤ 256
  ·rw [if_pos h6]
   obtain ⟨b, i', st', e, b0, b1, i0⟩ := byte_ok s0 hl i st hi
   rw [e]
   simp only [Option.bind_some]
   rw [if_neg (by omega)]
   have hlt := Int.tmod_lt_of_pos b (show 0 < a by omega)
   exact ⟨_, _, _, rfl, i0, Int.tmod_nonneg _ b0, fun _ => hlt, by omega⟩
  ·rw [if_neg h6]
   obtain ⟨b, i1, s1, e1, b0, b1, j1⟩ := byte_ok s0 hl i st hi
   obtain ⟨c, i2, s2, e2, c0, c1, j2⟩ := byte_ok s0 hl i1 s1 j1
   obtain ⟨d, i3, s3, e3, d0, d1, j3⟩ := byte_ok s0 hl i2 s2 j2
   obtain ⟨g, i4, s4, e4, g0, g1, j4⟩ := byte_ok s0 hl i3 s3 j3
   rw [e1]
   simp only [Option.bind_some]
   rw [e2]
   simp only [Option.bind_some]
   rw [e3]
   simp only [Option.bind_some]
   rw [e4]
   simp only [Option.bind_some]
   rw [if_neg (by omega)]
   have es : wrap64 (wrap64 (wrap64 (wrap64 (b * 16777216) + wrap64 (c * 65536)) + wrap64 (d * 256)) + g) = b * 16777216 + c * 65536 + d * 256 + g := by
    rw [w64 (x := b * 16777216) (by omega) (by omega), w64 (x := c * 65536) (by omega) (by omega), w64 (x := d * 256) (by omega) (by omega), w64 (x := b * 16777216 + c * 65536) (by omega) (by omega), w64 (x := b * 16777216 + c * 65536 + d * 256) (by omega) (by omega), w64 (by omega) (by omega)]
   rw [es]
   have hlt := Int.tmod_lt_of_pos (b * 16777216 + c * 65536 + d * 256 + g) (show 0 < a by omega)
   exact ⟨_, _, _, rfl, j4, Int.tmod_nonneg _ (by omega), fun _ => hlt, by omega⟩

theorem new_loop (l0 : List Int) (hl : l0.length ≤ 1048576) : ∀ (d i K : Nat) (h : Int), i + d = l0.length → d + 1 ≤ K → ∃ h', spec_l1New.l0 K l0 h (i : Int) = some (l0, 0, h') := by
 intro d
 induction d with
 | zero =>
  intro i K h hi hK
  obtain ⟨K, rfl⟩ : ∃ q, K = q + 1 := ⟨K - 1, by omega⟩
  simp only [spec_l1New.l0]
  rw [if_neg (by omega)]
  exact ⟨_, rfl⟩
 | succ d ih =>
  intro i K h hi hK
  obtain ⟨K, rfl⟩ : ∃ q, K = q + 1 := ⟨K - 1, by omega⟩
  simp only [spec_l1New.l0]
  rw [if_pos (by omega)]
  by_cases h4 : (i : Int) < 4000
  ·rw [if_pos h4, if_pos (by omega), w64 (x := (i : Int) + 1) (by omega) (by omega)]
   exact ih (i + 1) K _ (by omega) (by omega)
  ·rw [if_neg h4]
   exact ⟨_, rfl⟩
theorem new_ok (l0 : List Int) (hl : l0.length ≤ 1048576) (K : Nat) (hK : l0.length + 1 ≤ K) : ∃ h', spec_l1New.f K l0 = some (l0, 0, h') := new_loop l0 hl l0.length 0 K _ (by omega) hK


theorem and_full (X m : Int) (h0 : 0 ≤ m) (h1 : m ≤ 9223372036854775807) : 0 ≤ bits .and .i64 X m ∧ bits .and .i64 X m ≤ m := by
 obtain ⟨M, rfl⟩ := Int.eq_ofNat_of_zero_le h0
 have e : bits .and .i64 X (M : Int) = IntKind.i64.wrap (((BitVec.ofInt 64 X &&& BitVec.ofInt 64 (M : Int)).toNat : Nat) : Int) := rfl
 have h : (BitVec.ofInt 64 X &&& BitVec.ofInt 64 (M : Int)).toNat ≤ M := by
  rw [BitVec.toNat_and, ofInt_nat M (by omega)]
  exact Nat.and_le_right
 rw [e, wrap_nat _ (by omega)]
 omega
theorem full_is (n : Nat) (hn : n ≤ 5) : spec_l2Full.f (n : Int) = some (lim (n : Int) - 1) := by
 unfold spec_l2Full.f
 rw [if_pos (by omega), if_pos (by omega), full_at (by omega) (by omega)]
theorem counts : ∀ x : Fin 32, (spec_l2Count.f 8 (x.val : Int)).isSome = true := by decide +kernel
theorem count_more (x r : Int) (h : spec_l2Count.f 8 x = some r) : ∀ j, spec_l2Count.f (8 + j) x = some r
 | 0 => h
 | j + 1 => spec_l2Count.mono _ _ _ (count_more x r h j)
theorem count_ok (x : Nat) (hx : x < 32) (K : Nat) (hK : 8 ≤ K) : ∃ r, spec_l2Count.f K (x : Int) = some r := by
 obtain ⟨r, hr⟩ := Option.isSome_iff_exists.1 (counts ⟨x, hx⟩)
 obtain ⟨j, rfl⟩ : ∃ j, K = 8 + j := ⟨K - 8, by omega⟩
 exact ⟨r, count_more _ _ hr j⟩

/-- A word within a table's bounds. -/
def Okw (w : Int) : Prop := 0 ≤ w ∧ w ≤ 4294967296
theorem end_ok (n : Nat) (hn : n ≤ 5) (X : Int) (i st : Int) : ∃ w, (if (n : Int) = 0 then ((spec_l2Full.f (n : Int)).bind fun t => (some ((n : Int), Go.bits .and .i64 (Go.bits .and .i64 X 1) t, i, st))) else ((spec_l2Full.f (n : Int)).bind fun t => (some ((n : Int), Go.bits .and .i64 X t, i, st)))) = some ((n : Int), w, i, st) ∧ Okw w := by
 have hl := lim_le (n : Int)
 rw [full_is n hn]
 simp only [Option.bind_some]
 by_cases h : (n : Int) = 0
 ·rw [if_pos h]
  have := and_full (Go.bits .and .i64 X 1) (lim (n : Int) - 1) (by omega) (by omega)
  exact ⟨_, rfl, this.1, by omega⟩
 ·rw [if_neg h]
  have := and_full X (lim (n : Int) - 1) (by omega) (by omega)
  exact ⟨_, rfl, this.1, by omega⟩
theorem pow32 {n : Nat} (hn : n ≤ 5) : 2 ^ n ≤ 32 := Nat.pow_le_pow_right (by decide) hn
theorem loop0 (n : Nat) (hn : n ≤ 5) (s0 : List Int) (i st : Int) : ∀ (d x K : Nat) (X : Int), x + d = 2 ^ n → d + 12 ≤ K → ∃ w, spec_l2Draw.l0 K (n : Int) X (x : Int) s0 i st = some ((n : Int), w, i, st) ∧ Okw w := by
 have h32 := pow32 hn
 intro d
 induction d with
 | zero =>
  intro x K X hx hK
  obtain ⟨K, rfl⟩ : ∃ q, K = q + 1 := ⟨K - 1, by omega⟩
  simp only [spec_l2Draw.l0]
  rw [if_pos (by omega), shl_two_nat hn, if_neg (by omega)]
  exact end_ok n hn X i st
 | succ d ih =>
  intro x K X hx hK
  obtain ⟨K, rfl⟩ : ∃ q, K = q + 1 := ⟨K - 1, by omega⟩
  obtain ⟨r, hr⟩ := count_ok x (by omega) K (by omega)
  simp only [spec_l2Draw.l0]
  rw [if_pos (by omega), shl_two_nat hn, if_pos (by omega), hr]
  simp only [Option.bind_some]
  rw [w64 (x := (x : Int) + 1) (by omega) (by omega)]
  by_cases hc : wrap64 (2 * r) > (n : Int)
  ·rw [if_pos hc, if_pos (by omega)]
   exact ih (x + 1) K _ (by omega) (by omega)
  ·rw [if_neg hc]
   exact ih (x + 1) K _ (by omega) (by omega)
theorem loop1 (n : Nat) (hn : n ≤ 5) (s0 : List Int) (i st : Int) : ∀ (d x K : Nat) (X : Int), x + d = 2 ^ n → d + 12 ≤ K → ∃ w, spec_l2Draw.l1 K (n : Int) X (x : Int) s0 i st = some ((n : Int), w, i, st) ∧ Okw w := by
 have h32 := pow32 hn
 intro d
 induction d with
 | zero =>
  intro x K X hx hK
  obtain ⟨K, rfl⟩ : ∃ q, K = q + 1 := ⟨K - 1, by omega⟩
  simp only [spec_l2Draw.l1]
  rw [if_pos (by omega), shl_two_nat hn, if_neg (by omega)]
  exact end_ok n hn X i st
 | succ d ih =>
  intro x K X hx hK
  obtain ⟨K, rfl⟩ : ∃ q, K = q + 1 := ⟨K - 1, by omega⟩
  obtain ⟨r, hr⟩ := count_ok x (by omega) K (by omega)
  simp only [spec_l2Draw.l1]
  rw [if_pos (by omega), shl_two_nat hn, if_pos (by omega), hr]
  simp only [Option.bind_some]
  rw [w64 (x := (x : Int) + 1) (by omega) (by omega)]
  by_cases hc : Int.tmod r 2 = 1
  ·rw [if_pos hc, if_pos (by omega)]
   exact ih (x + 1) K _ (by omega) (by omega)
  ·rw [if_neg hc]
   exact ih (x + 1) K _ (by omega) (by omega)
theorem loop2 (n : Nat) (hn : n ≤ 5) (s0 : List Int) (i st q : Int) : ∀ (d x K : Nat) (X : Int), x + d = 2 ^ n → d + 12 ≤ K → ∃ w, spec_l2Draw.l2 K (n : Int) X q (x : Int) s0 i st = some ((n : Int), w, i, st) ∧ Okw w := by
 have h32 := pow32 hn
 intro d
 induction d with
 | zero =>
  intro x K X hx hK
  obtain ⟨K, rfl⟩ : ∃ q, K = q + 1 := ⟨K - 1, by omega⟩
  simp only [spec_l2Draw.l2]
  rw [if_pos (by omega), shl_two_nat hn, if_neg (by omega)]
  exact end_ok n hn X i st
 | succ d ih =>
  intro x K X hx hK
  obtain ⟨K, rfl⟩ : ∃ q, K = q + 1 := ⟨K - 1, by omega⟩
  simp only [spec_l2Draw.l2]
  rw [if_pos (by omega), shl_two_nat hn, if_pos (by omega), w64 (x := (x : Int) + 1) (by omega) (by omega)]
  by_cases hc : Go.bits .and .i64 (x : Int) q = q
  ·rw [if_pos hc, if_pos (by omega)]
   exact ih (x + 1) K _ (by omega) (by omega)
  ·rw [if_neg hc]
   exact ih (x + 1) K _ (by omega) (by omega)
theorem loop3 (n : Nat) (hn : n ≤ 5) (s0 : List Int) (hl : s0.length ≤ 1048576) : ∀ (d x K : Nat) (X i st : Int), 0 ≤ i → x + d = 2 ^ n → d + 12 ≤ K → ∃ w i' st', spec_l2Draw.l3 K (n : Int) X (x : Int) s0 i st = some ((n : Int), w, i', st') ∧ Okw w ∧ 0 ≤ i' := by
 have h32 := pow32 hn
 intro d
 induction d with
 | zero =>
  intro x K X i st hi hx hK
  obtain ⟨K, rfl⟩ : ∃ q, K = q + 1 := ⟨K - 1, by omega⟩
  simp only [spec_l2Draw.l3]
  rw [if_pos (by omega), shl_two_nat hn, if_neg (by omega)]
  obtain ⟨w, e, o⟩ := end_ok n hn X i st
  exact ⟨w, i, st, e, o, hi⟩
 | succ d ih =>
  intro x K X i st hi hx hK
  obtain ⟨K, rfl⟩ : ∃ q, K = q + 1 := ⟨K - 1, by omega⟩
  obtain ⟨r, i1, s1, e1, j1, -⟩ := below_ok s0 hl i st 2 hi (by omega)
  simp only [spec_l2Draw.l3]
  rw [if_pos (by omega), shl_two_nat hn, if_pos (by omega), e1]
  simp only [Option.bind_some]
  rw [if_pos (by omega), w64 (x := (x : Int) + 1) (by omega) (by omega)]
  exact ih (x + 1) K _ i1 s1 j1 (by omega) (by omega)
theorem variable_ok (n : Nat) (hn : n ≤ 5) (q : Int) (hq : 0 ≤ q) : ∀ (d x K : Nat) (X : Int), x + d = 2 ^ n → d + 2 ≤ K → ∃ w, spec_l2Variable.l0 K (n : Int) q X (x : Int) = some w := by
 have h32 := pow32 hn
 intro d
 induction d with
 | zero =>
  intro x K X hx hK
  obtain ⟨K, rfl⟩ : ∃ q, K = q + 1 := ⟨K - 1, by omega⟩
  simp only [spec_l2Variable.l0]
  rw [if_pos (by omega), shl_two_nat hn, if_neg (by omega)]
  exact ⟨X, rfl⟩
 | succ d ih =>
  intro x K X hx hK
  obtain ⟨K, rfl⟩ : ∃ q, K = q + 1 := ⟨K - 1, by omega⟩
  simp only [spec_l2Variable.l0]
  rw [if_pos (by omega), shl_two_nat hn, if_pos (by omega), if_pos hq, w64 (x := (x : Int) + 1) (by omega) (by omega)]
  by_cases hc : Go.bits .and .i64 (shr .i64 (x : Int) q) 1 = 1
  ·rw [if_pos hc, if_pos (by omega)]
   exact ih (x + 1) K _ (by omega) (by omega)
  ·rw [if_neg hc]
   exact ih (x + 1) K _ (by omega) (by omega)
theorem mx_le (a : Int) (h : a ≤ 5) : mx 1 a ≤ 5 := by
 unfold mx
 split <;> omega
theorem draw_ok (n : Nat) (hn : n ≤ 5) (s0 : List Int) (hl : s0.length ≤ 1048576) (i st : Int) (hi : 0 ≤ i) (K : Nat) (hK : 60 ≤ K) : ∃ w i' st', spec_l2Draw.f K s0 i st (n : Int) = some ((n : Int), w, i', st') ∧ Okw w ∧ 0 ≤ i' := by
 have h32 := pow32 hn
 unfold spec_l2Draw.f
 obtain ⟨r, i1, s1, e1, j1, r0, r1, -⟩ := below_ok s0 hl i st 6 hi (by omega)
 rw [e1]
 simp only [Option.bind_some]
 by_cases h0 : r = 0
 ·rw [if_pos h0]
  obtain ⟨q, i2, s2, e2, j2, q0, -⟩ := below_ok s0 hl i1 s1 (mx 1 (n : Int)) j1 (by have := mx_le (n : Int) (by omega); omega)
  rw [e2]
  simp only [Option.bind_some]
  obtain ⟨X, hX⟩ := variable_ok n hn q q0 (2 ^ n) 0 K 0 (by omega) (by omega)
  have hX' : spec_l2Variable.f K (n : Int) q = some X := hX
  rw [hX']
  simp only [Option.bind_some]
  obtain ⟨w, e, o⟩ := end_ok n hn X i2 s2
  exact ⟨w, i2, s2, e, o, j2⟩
 ·rw [if_neg h0]
  by_cases h1 : r = 1
  ·rw [if_pos h1]
   obtain ⟨w, e, o⟩ := loop0 n hn s0 i1 s1 (2 ^ n) 0 K 0 (by omega) (by omega)
   exact ⟨w, i1, s1, e, o, j1⟩
  ·rw [if_neg h1]
   by_cases h2 : r = 2
   ·rw [if_pos h2]
    obtain ⟨w, e, o⟩ := loop1 n hn s0 i1 s1 (2 ^ n) 0 K 0 (by omega) (by omega)
    exact ⟨w, i1, s1, e, o, j1⟩
   ·rw [if_neg h2]
    by_cases h3 : r = 3
    ·rw [if_pos h3, if_pos (by omega), shl_two_nat hn]
     obtain ⟨q, i2, s2, e2, j2, -⟩ := below_ok s0 hl i1 s1 ((2 ^ n : Nat) : Int) j1 (by omega)
     rw [e2]
     simp only [Option.bind_some]
     obtain ⟨w, e, o⟩ := loop2 n hn s0 i2 s2 q (2 ^ n) 0 K 0 (by omega) (by omega)
     exact ⟨w, i2, s2, e, o, j2⟩
    ·rw [if_neg h3]
     exact loop3 n hn s0 hl (2 ^ n) 0 K 0 i1 s1 j1 (by omega) (by omega)

/-- In int's bounds. -/
def Int64 (x : Int) : Prop := -9223372036854775808 ≤ x ∧ x ≤ 9223372036854775807
theorem picks1 : ∀ r : Fin 5, -9223372036854775808 ≤ rd [(-1), 6, 5, 0, 9223372036854775807] (r.val : Int) ∧ rd [(-1), 6, 5, 0, 9223372036854775807] (r.val : Int) ≤ 9223372036854775807 := by decide +kernel
theorem picks2 : ∀ r : Fin 5, -9223372036854775808 ≤ rd [(-1), 0, 1, 65536, 9223372036854775807] (r.val : Int) ∧ rd [(-1), 0, 1, 65536, 9223372036854775807] (r.val : Int) ≤ 9223372036854775807 := by decide +kernel
theorem any_ok (s0 : List Int) (hl : s0.length ≤ 1048576) (i st : Int) (hi : 0 ≤ i) (K : Nat) (hK : 60 ≤ K) : ∃ n w i' st', spec_l2Any.f K s0 i st = some (n, w, i', st') ∧ Int64 n ∧ Int64 w ∧ 0 ≤ i' := by
 unfold spec_l2Any.f
 obtain ⟨r, i1, s1, e1, j1, r0, r1, -⟩ := below_ok s0 hl i st 5 hi (by omega)
 rw [e1]
 simp only [Option.bind_some]
 have hr := r1 (by omega)
 obtain ⟨n, rfl⟩ := Int.eq_ofNat_of_zero_le r0
 obtain ⟨w, i2, s2, e2, o2, j2⟩ := draw_ok n (by omega) s0 hl i1 s1 j1 K hK
 obtain ⟨w0, w1⟩ := o2
 rw [e2]
 simp only [Option.bind_some]
 obtain ⟨q, i3, s3, e3, j3, -⟩ := below_ok s0 hl i2 s2 14 j2 (by omega)
 rw [e3]
 simp only [Option.bind_some]
 by_cases h0 : q = 0
 ·rw [if_pos h0]
  unfold spec_l1PickInt.f
  obtain ⟨p, i4, s4, e4, j4, p0, p1, -⟩ := below_ok s0 hl i3 s3 5 j3 (by omega)
  have hlen : (([(-1), 6, 5, 0, 9223372036854775807] : List Int).length : Int) = 5 := rfl
  rw [hlen, e4]
  simp only [Option.bind_some]
  have hp := p1 (by omega)
  rw [if_pos p0, if_pos hp]
  simp only [Option.bind_some]
  obtain ⟨P, rfl⟩ := Int.eq_ofNat_of_zero_le p0
  exact ⟨_, _, _, _, rfl, picks1 ⟨P, by omega⟩, ⟨by omega, by omega⟩, j4⟩
 ·rw [if_neg h0]
  by_cases h1 : q = 1
  ·rw [if_pos h1]
   unfold spec_l1PickInt.f
   obtain ⟨p, i4, s4, e4, j4, p0, p1, -⟩ := below_ok s0 hl i3 s3 5 j3 (by omega)
   have hlen : (([(-1), 0, 1, 65536, 9223372036854775807] : List Int).length : Int) = 5 := rfl
   rw [hlen, e4]
   simp only [Option.bind_some]
   have hp := p1 (by omega)
   rw [if_pos p0, if_pos hp]
   simp only [Option.bind_some]
   obtain ⟨P, rfl⟩ := Int.eq_ofNat_of_zero_le p0
   exact ⟨_, _, _, _, rfl, ⟨by omega, by omega⟩, picks2 ⟨P, by omega⟩, j4⟩
  ·rw [if_neg h1]
   exact ⟨_, _, _, _, rfl, ⟨by omega, by omega⟩, ⟨by omega, by omega⟩, j3⟩
theorem var_ok (l0 : List Int) (hl : l0.length ≤ 1048576) (K : Nat) (hK : l0.length + 60 ≤ K) : ∃ n w i, spec_l3Var.f K l0 = some (n, w, i) ∧ Int64 n ∧ Int64 w ∧ -1 ≤ i ∧ i ≤ 5 := by
 unfold spec_l3Var.f
 obtain ⟨h, e⟩ := new_ok l0 hl K (by omega)
 rw [e]
 simp only [Option.bind_some]
 obtain ⟨n, w, i1, s1, e1, n1, w1, j1⟩ := any_ok l0 hl 0 h (by omega) K (by omega)
 rw [e1]
 simp only [Option.bind_some]
 obtain ⟨q, i2, s2, e2, j2, q0, q1, -⟩ := below_ok l0 hl i1 s1 7 j1 (by omega)
 rw [e2]
 simp only [Option.bind_some]
 have hq := q1 (by omega)
 rw [w64 (by omega) (by omega)]
 exact ⟨n, w, _, rfl, n1, w1, by omega, by omega⟩
theorem draw_depends (l0 : List Int) (hl : l0.length ≤ 1048576) (K : Nat) (hK : l0.length + 60 ≤ K) : ∃ n w i, spec_DrawDependsOn.f K l0 = some (n, w, i) ∧ Int64 n ∧ Int64 w ∧ -1 ≤ i ∧ i ≤ 5 := by
 unfold spec_DrawDependsOn.f
 obtain ⟨n, w, i, e, r⟩ := var_ok l0 hl K hK
 rw [e]
 exact ⟨n, w, i, rfl, r⟩
theorem draw_shift (l0 : List Int) (hl : l0.length ≤ 1048576) (K : Nat) (hK : l0.length + 60 ≤ K) : ∃ n w i, spec_DrawShiftTable.f K l0 = some (n, w, i) ∧ Int64 n ∧ Int64 w ∧ -1 ≤ i ∧ i ≤ 16 := by
 unfold spec_DrawShiftTable.f
 obtain ⟨h, e⟩ := new_ok l0 hl K (by omega)
 rw [e]
 simp only [Option.bind_some]
 obtain ⟨n, w, i1, s1, e1, n1, w1, j1⟩ := any_ok l0 hl 0 h (by omega) K (by omega)
 rw [e1]
 simp only [Option.bind_some]
 obtain ⟨q, i2, s2, e2, j2, q0, q1, -⟩ := below_ok l0 hl i1 s1 18 j1 (by omega)
 rw [e2]
 simp only [Option.bind_some]
 have hq := q1 (by omega)
 rw [w64 (by omega) (by omega)]
 exact ⟨n, w, _, rfl, n1, w1, by omega, by omega⟩
theorem draw_reduce (l0 : List Int) (hl : l0.length ≤ 1048576) (K : Nat) (hK : l0.length + 60 ≤ K) : ∃ n w, spec_DrawReduceTable.f K l0 = some (n, w) ∧ Int64 n ∧ Int64 w := by
 unfold spec_DrawReduceTable.f
 obtain ⟨h, e⟩ := new_ok l0 hl K (by omega)
 rw [e]
 simp only [Option.bind_some]
 obtain ⟨n, w, i1, s1, e1, n1, w1, j1⟩ := any_ok l0 hl 0 h (by omega) K (by omega)
 rw [e1]
 exact ⟨n, w, rfl, n1, w1⟩
theorem draw_cube (l0 : List Int) (hl : l0.length ≤ 1048576) (K : Nat) (hK : l0.length + 60 ≤ K) : ∃ n w m v, spec_DrawCubeValue.f K l0 = some (n, w, m, v) ∧ Int64 n ∧ Int64 w ∧ 0 ≤ m ∧ m ≤ 16 ∧ 0 ≤ v ∧ v ≤ 16 := by
 unfold spec_DrawCubeValue.f
 obtain ⟨h, e⟩ := new_ok l0 hl K (by omega)
 rw [e]
 simp only [Option.bind_some]
 obtain ⟨n, w, i1, s1, e1, n1, w1, j1⟩ := any_ok l0 hl 0 h (by omega) K (by omega)
 rw [e1]
 simp only [Option.bind_some]
 obtain ⟨q, i2, s2, e2, j2, q0, q1, -⟩ := below_ok l0 hl i1 s1 17 j1 (by omega)
 rw [e2]
 simp only [Option.bind_some]
 obtain ⟨p, i3, s3, e3, j3, p0, p1, -⟩ := below_ok l0 hl i2 s2 17 j2 (by omega)
 rw [e3]
 simp only [Option.bind_some]
 have hq := q1 (by omega)
 have hp := p1 (by omega)
 have ha := and_full q p p0 (by omega)
 exact ⟨n, w, q, _, rfl, n1, w1, q0, by omega, ha.1, by omega⟩
theorem picks3 : ∀ r : Fin 6, -1 ≤ rd [0, 1, 0, 1, 2, (-1)] (r.val : Int) ∧ rd [0, 1, 0, 1, 2, (-1)] (r.val : Int) ≤ 2 := by decide +kernel
theorem picks4 : ∀ r : Fin 7, -1 ≤ rd [0, 1, 2, 3, 4, (-1), 5] (r.val : Int) ∧ rd [0, 1, 2, 3, 4, (-1), 5] (r.val : Int) ≤ 5 := by decide +kernel
theorem draw_restrict (l0 : List Int) (hl : l0.length ≤ 1048576) (K : Nat) (hK : l0.length + 60 ≤ K) : ∃ n w i b, spec_DrawRestrictTable.f K l0 = some (n, w, i, b) ∧ Int64 n ∧ Int64 w ∧ -1 ≤ i ∧ i ≤ 5 ∧ -1 ≤ b ∧ b ≤ 2 := by
 unfold spec_DrawRestrictTable.f
 obtain ⟨n, w, i, e, n1, w1, i0, i1⟩ := var_ok l0 hl K hK
 rw [e]
 simp only [Option.bind_some]
 have hlen : (([0, 1, 0, 1, 2, (-1)] : List Int).length : Int) = 6 := rfl
 rw [hlen, if_pos (by omega), if_pos (by omega)]
 have hp := picks3 ⟨l0.length % 6, by omega⟩
 rw [show (((⟨l0.length % 6, by omega⟩ : Fin 6).val : Nat) : Int) = (l0.length : Int) % 6 by simp] at hp
 exact ⟨n, w, i, _, rfl, n1, w1, i0, i1, hp.1, hp.2⟩
theorem two_ok (l0 : List Int) (hl : l0.length ≤ 1048576) (K : Nat) (hK : l0.length + 61 ≤ K) : ∃ n w n2 w2, spec_l2Two.f K l0 = some (n, w, n2, w2) ∧ Int64 n ∧ Int64 w ∧ Int64 n2 ∧ Int64 w2 := by
 obtain ⟨K, rfl⟩ : ∃ q, K = q + 1 := ⟨K - 1, by omega⟩
 unfold spec_l2Two.f
 obtain ⟨h, e⟩ := new_ok l0 hl (K + 1) (by omega)
 rw [e]
 simp only [Option.bind_some]
 obtain ⟨n, w, i1, s1, e1, n1, w1, j1⟩ := any_ok l0 hl 0 h (by omega) (K + 1) (by omega)
 rw [e1]
 simp only [Option.bind_some]
 rw [spec_IsTable_is]
 simp only [Option.bind_some]
 by_cases hK2 : 60 ≤ K
 ·have fin : ∀ (c : Bool) (i2 s2 : Int), 0 ≤ i2 → isT n w = true ∨ c = false → ∃ n' w' n2 w2, spec_l2Two.j0 (K + 1) c l0 i2 s2 n w = some (n', w', n2, w2) ∧ Int64 n' ∧ Int64 w' ∧ Int64 n2 ∧ Int64 w2 := by
   intro c i2 s2 j2 hc
   simp only [spec_l2Two.j0]
   cases c
   ·rw [if_neg (by decide)]
    obtain ⟨n2, w2, i3, s3, e3, a3, b3, j3⟩ := any_ok l0 hl i2 s2 j2 K hK2
    rw [e3]
    exact ⟨n, w, n2, w2, rfl, n1, w1, a3, b3⟩
   ·rw [if_pos rfl]
    have hT : isT n w = true := by
     rcases hc with q | q
     ·exact q
     ·cases q
    obtain ⟨q0, q5, -, -⟩ := isT_yes hT
    obtain ⟨m, rfl⟩ := Int.eq_ofNat_of_zero_le q0
    obtain ⟨w2, i3, s3, e3, o3, j3⟩ := draw_ok m (by omega) l0 hl i2 s2 j2 K hK2
    rw [e3]
    exact ⟨_, w, _, w2, rfl, n1, w1, n1, ⟨by have := o3.1; omega, by have := o3.2; omega⟩⟩
  cases hT : isT n w
  ·rw [if_neg (by decide)]
   exact fin false i1 s1 j1 (Or.inr rfl)
  ·rw [if_pos rfl]
   unfold spec_l1Once.f
   obtain ⟨q, i2, s2, e2, j2, -⟩ := below_ok l0 hl i1 s1 6 j1 (by omega)
   rw [e2]
   simp only [Option.bind_some]
   exact fin _ i2 s2 j2 (Or.inl hT)
 ·omega
theorem draw_join (l0 : List Int) (hl : l0.length ≤ 1048576) (K : Nat) (hK : l0.length + 61 ≤ K) : ∃ n w n2 w2 i, spec_DrawJoinTables.f K l0 = some (n, w, n2, w2, i) ∧ Int64 n ∧ Int64 w ∧ Int64 n2 ∧ Int64 w2 ∧ -1 ≤ i ∧ i ≤ 5 := by
 unfold spec_DrawJoinTables.f
 obtain ⟨n, w, n2, w2, e, a, b, c, d⟩ := two_ok l0 hl K (by omega)
 rw [e]
 simp only [Option.bind_some]
 have hlen : (([0, 1, 2, 3, 4, (-1), 5] : List Int).length : Int) = 7 := rfl
 rw [hlen, if_pos (by omega), if_pos (by omega)]
 have hp := picks4 ⟨l0.length % 7, by omega⟩
 rw [show (((⟨l0.length % 7, by omega⟩ : Fin 7).val : Nat) : Int) = (l0.length : Int) % 7 by simp] at hp
 exact ⟨n, w, n2, w2, _, rfl, a, b, c, d, hp.1, hp.2⟩
end Go.Proofs.Ytijpcemcijaeeaa.Drw

namespace Go.Proofs.Ytijpcemcijaeeaa.P
open Go.RowKit Go.Proofs.YtijpcemcijaeeaaW.PrintWords Go.Proofs.YtijpcemcijaeeaaW.PrintLast Go.Proofs.YtijpcemcijaeeaaW.PrintMore
attribute [local go_sem] max2_int min2_int max_two min_two max_three min_three max_four min_four
attribute [local go_sem] fld23_0 fld23_1
set_option linter.unusedVariables false
set_option linter.unusedSimpArgs false

/-- The blocks that stood stand. -/
def Old (w w1 : World) : Prop := w.heap.size ≤ w1.heap.size ∧ ∀ k, k < w.heap.size → w1.heap[k]? = w.heap[k]?
theorem Old.refl (w : World) : Old w w := ⟨Nat.le_refl _, fun _ _ => rfl⟩
theorem Old.drew {w w1 : World} (h : Old w w1) : Old w w1.drew := h
theorem Old.below {w w1 w2 : World} (h : Old w w1) (hb : Below w1.heap.size w1 w2) : Old w w2 := ⟨Nat.le_trans h.1 hb.size, fun k hk => (hb.block k (Nat.lt_of_lt_of_le hk h.1)).trans (h.2 k hk)⟩
theorem Old.alloc {w w1 : World} (h : Old w w1) (o : Obj) : Old w (w1.alloc o) := h.below (below_alloc (Below.refl _ _) o)
theorem Old.grown {w w1 w2 : World} {row : Option Nat} (h : Old w w1) (hg : w1.grownBy w2 row) (hr : ∀ k, row = some k → w.heap.size ≤ k) : Old w w2 :=
  ⟨Nat.le_trans h.1 hg.size, fun k hk => (hg.block k (Nat.lt_of_lt_of_le hk h.1) (fun e => by have := hr k e.symm; omega)).trans (h.2 k hk)⟩
theorem Old.blk {w w1 : World} (h : Old w w1) {g : Nat} {o : Obj} (hb : w.heap[g]? = some o) : w1.heap[g]? = some o := (h.2 g (blk_lt hb)).trans hb
theorem Old.row {w w1 : World} (h : Old w w1) {e base : Nat} {ok : Nat → Prop} {v : Value} {xs : List Int} (hr : Kd.R (Kd.int .i64) e w base ok v xs) : Kd.R (Kd.int .i64) e w1 base ok v xs := Kd.R_step hr (fun k _ hk => h.2 k hk)
theorem Old.cur {w0 w w1 : World} (h : Old w w1) {g : Nat} {f0 : List Int} {f1 f2 : Int} (hi : IsS109 w0 w g f0 f1 f2) : IsS109 w0 w1 g f0 f1 f2 := by
  obtain ⟨A, c, h1, h2, h3⟩ := hi
  exact ⟨A, c, h.blk h1, h2, h3⟩
theorem lit_none (W : World) {b : Nat} (hb : b ≤ W.heap.size) : Kd.R (Kd.int .i64) 3 (W.alloc (.cells #[] 3)) b (fun _ => True) (.slice (some ⟨W.heap.size, 0, none⟩) 0 0) [] := by
  refine ⟨fun _ _ => trivial, [], ?_, Reps.none _ _⟩
  have h2 := World.ownsRow_lit (base := b) (e := 3) (size := 1) W #[] 0 hb (by simp [maxLen]) (by simp)
  exact h2
theorem lit_one (W : World) {b : Nat} (hb : b ≤ W.heap.size) (k : Int) : Kd.R (Kd.int .i64) 3 (W.alloc (.cells #[.int .i64 k] 3)) b (fun _ => True) (.slice (some ⟨W.heap.size, 0, none⟩) 1 1) [k] := by
  refine ⟨fun _ _ => trivial, [.int .i64 k], ?_, Reps.one rfl (Reps.none _ _)⟩
  have h2 := World.ownsRow_lit (base := b) (e := 3) (size := 1) W #[.int .i64 k] 1 hb (by simp [maxLen]) (by simp)
  exact h2
theorem lit_four (W : World) {b : Nat} (hb : b ≤ W.heap.size) : Kd.R (Kd.int .i64) 3 (W.alloc (.cells #[.int .i64 (-1), .int .i64 0, .int .i64 5, .int .i64 9223372036854775807] 3)) b (fun _ => True) (.slice (some ⟨W.heap.size, 0, none⟩) 4 4) [-1, 0, 5, 9223372036854775807] := by
  refine ⟨fun _ _ => trivial, [.int .i64 (-1), .int .i64 0, .int .i64 5, .int .i64 9223372036854775807], ?_, Reps.one rfl (Reps.one rfl (Reps.one rfl (Reps.one rfl (Reps.none _ _))))⟩
  have h2 := World.ownsRow_lit (base := b) (e := 3) (size := 1) W #[.int .i64 (-1), .int .i64 0, .int .i64 5, .int .i64 9223372036854775807] 4 hb (by simp [maxLen]) (by simp)
  exact h2
set_option maxHeartbeats 8000000 in
set_option maxRecDepth 100000 in
theorem drawPermute_calls (A0 : Option Addr) (c0 : Nat) (l0 : List Int) (hl : l0.length ≤ 1048576) (w : World) (hr0 : Kd.C (Kd.int .u8) w A0 l0.length l0) (hc0 : l0.length ≤ c0) :
    Calls Try.prog 67 #[.slice A0 l0.length c0] w fun e w' => ∃ (n v : Int) (A : Option Addr) (c : Nat) (x : List Int), e = .returned (.tuple #[.agg #[.int .i64 n, .int .i64 v], .slice A x.length c]) ∧ x.length ≤ 6 ∧ x.length ≤ c ∧ Kd.C (Kd.int .i64) w' A x.length x ∧ Below w.heap.size w w' := by
  have hu23 := Try.underlying23
  have HR0 := zA hr0
  have HC0 := zA hc0
  have HB := zA (Below.refl w.heap.size w)
  obtain ⟨h, e1⟩ := Drw.new_ok l0 hl (l0.length + 61) (by omega)
  obtain ⟨n, v, i1, s1, e2, -, -, j1⟩ := Drw.any_ok l0 hl 0 h (by omega) (l0.length + 61) (by omega)
  have A2 := zA e1
  have A3 := zA e2
  have J1 := zA j1
  have HL := zA hl
  clear hr0 hc0 e1 e2 j1 hl
  go_enter Try.func67, Try.ntmps67
  go_wp2_with (first | ((with_reducible refine gate_dst (N := 2) rfl ?_); refine box_event ?hg (N := 2) ?hd (cs := #[.int .i64 0, .int .i64 0]) (t := 23) ?hr ?_; (case hd => rfl); (case hg => rfl); (case hr => exact zH); intro gb0 hg wa1 hbox hb; have BK0 := zA (hbox); have GE0 := zg HB hg; replace HB := zA (below_step (zB HB) hb); clear hb hbox hg) | ((with_reducible refine gate_callee (f := 120) rfl ?_); refine goesL_ (some 10) rfl rfl Try.func120 (by kernel_rfl) rfl #[.slice A0 l0.length c0] rfl zM ?_; (with_reducible refine (spec_l1New.calls (l0.length + 61) _ _ l0 l0 0 h w _ ?side1 ?side2 ?side3 A2.out).mono ?_); (case side1 => repeat (first | (with_reducible first | exact HB.out | apply below_alloc | apply pw_below_drewN | apply below_drew1 | refine below_set ?_ GE0.out) | exact HB.out)); (case side2 => exact HR0.out); (case side3 => exact HC0.out); rintro e wa2 ⟨g, rfl, hi, hb, hb2⟩; refine ⟨_, rfl, ?_⟩; have n0_ := zb BK0 hb2; have n1_ := zA (hb); have n2_ := zA (hi); have n3_ := zA (IsS109.ne_blk hi (blk_below (g := gb0) (o := .cells #[.int .i64 0, .int .i64 0] 23 (0, 0)) (zD BK0) hb2) (by decide)); clear BK0 HB; have BK0 := n0_; have HB := n1_; have HI := n2_; have NBg_0 := n3_; have NB0_g := zA (Ne.symm n3_.out); clear n0_ n1_ n2_ n3_; clear hb hb2 hi) | ((with_reducible refine gate_callee (f := 121) rfl ?_); refine goesL_ (some 12) rfl rfl Try.func121 (by kernel_rfl) rfl #[.pointer (some ⟨g, 0, none⟩)] rfl zM ?_; (with_reducible refine (spec_l2Any.calls (l0.length + 61) g l0 0 h n v i1 s1 w _ ?side1 ?side2 A3.out).mono ?_); (case side1 => repeat (first | (with_reducible first | exact HI.out | apply IsS109.alloc | apply IsS109.drewN | apply IsS109.drew | apply IsS109.set_1 | apply IsS109.set_2 | refine IsS109.far ?_ NBg_0.out _) | exact HI.out)); (case side2 => repeat (first | (with_reducible first | exact HB.out | apply below_alloc | apply pw_below_drewN | apply below_drew1 | refine below_set ?_ (IsS109.ge HI.out) | refine below_set ?_ GE0.out) | exact HB.out)); rintro e wa3 ⟨rfl, hi, hb, hk⟩; refine ⟨_, rfl, ?_⟩; have n0_ := zA (KeepBut.blk hk (g' := gb0) (o := .cells #[.int .i64 0, .int .i64 0] 23 (0, 0)) (zD BK0) NB0_g.out (by simp)); clear BK0 HB HI; have BK0 := n0_; have HB := zA hb; have HI := zA hi; clear n0_ hb hi hk) | ((with_reducible refine gate_dst (N := 5) rfl ?_); refine box_event ?hg (N := 5) ?hd (cs := #[.int .i64 0, .int .i64 0]) (t := 23) ?hr ?_; (case hd => rfl); (case hg => rfl); (case hr => exact zH); intro gb1 hg wa4 hbox hb; have n0_ := zb BK0 hb; have n1_ := zA (IsS109.below (by repeat (first | (with_reducible first | exact HI.out | apply IsS109.alloc | apply IsS109.drewN | apply IsS109.drew | apply IsS109.set_1 | apply IsS109.set_2 | refine IsS109.far ?_ NBg_0.out _) | exact HI.out)) hb); have n2_ := zA (below_step (by repeat (first | (with_reducible first | exact HB.out | apply below_alloc | apply pw_below_drewN | apply below_drew1 | refine below_set ?_ (IsS109.ge HI.out) | refine below_set ?_ GE0.out) | exact HB.out)) hb); have n3_ := zA (hbox); have n4_ := zA ((by rw [hg]; exact (below_size (by repeat (first | (with_reducible first | exact HB.out | apply below_alloc | apply pw_below_drewN | apply below_drew1 | refine below_set ?_ (IsS109.ge HI.out) | refine below_set ?_ GE0.out) | exact HB.out))) : w.heap.size ≤ gb1)); have n5_ := zn BK0 hg; have n6_ := zA ((by rw [hg]; exact Nat.ne_of_lt (IsS109.lt (show IsS109 w _ g l0 i1 s1 from by repeat (first | (with_reducible first | exact HI.out | apply IsS109.alloc | apply IsS109.drewN | apply IsS109.drew | apply IsS109.set_1 | apply IsS109.set_2 | refine IsS109.far ?_ NBg_0.out _) | exact HI.out))) : g ≠ gb1)); clear BK0 HI HB; have BK0 := n0_; have HI := n1_; have HB := n2_; have BK1 := n3_; have GE1 := n4_; have NB0_1 := n5_; have NB1_0 := zA (Ne.symm n5_.out); have NBg_1 := n6_; have NB1_g := zA (Ne.symm n6_.out); clear n0_ n1_ n2_ n3_ n4_ n5_ n6_; clear hb hbox hg; have hnb1 := NB1_0.out; have hnc1 := NB0_1.out; have hnb2 := NB1_g.out; have hnc2 := NBg_1.out; have hz0 := zc0 BK1; have hz1 := zc1 BK1; have hf0 := blk_frozen BK1.out 0; have hf1 := blk_frozen BK1.out 1) | ((with_reducible refine gate_dst (N := 13) rfl ?_); refine Kd.R_lit (Kd.int .i64) _ 3 ?hg (N := 13) ?hd (xs := ([] : List Int)) (inner := []) (ok := fun _ => True) (okp := fun _ => True) ?hr ?hp (fun _ hk => hk) trivial (Below.refl _ _) (Nat.le_refl _) (by simp) ?_; (case hd => rfl); (case hg => rfl); (case hr => exact zH); (case hp => exact Reps.none _ _); intro v0 wa5 ho hb hg_ hnew; have n0_ := zA (Kd.R_lower ho (below_size (by repeat (first | (with_reducible first | exact HB.out | apply below_alloc | apply pw_below_drewN | apply below_drew1 | refine below_set ?_ (IsS109.ge HI.out) | refine below_set ?_ GE0.out | refine below_set ?_ GE1.out) | exact HB.out)))); have n1_ := zA (IsS109.below (by repeat (first | (with_reducible first | exact HI.out | apply IsS109.alloc | apply IsS109.drewN | apply IsS109.drew | apply IsS109.set_1 | apply IsS109.set_2 | refine IsS109.far ?_ NBg_0.out _ | refine IsS109.far ?_ NBg_1.out _) | exact HI.out)) hb); have n2_ := zf BK0 NB0_1 hb; have n3_ := zp BK1 hb; have n4_ := zA (below_step (by repeat (first | (with_reducible first | exact HB.out | apply below_alloc | apply pw_below_drewN | apply below_drew1 | refine below_set ?_ (IsS109.ge HI.out) | refine below_set ?_ GE0.out | refine below_set ?_ GE1.out) | exact HB.out)) hb); clear HI BK0 BK1 HB; have HO := n0_; have HI := n1_; have BK0 := n2_; have BK1 := n3_; have HB := n4_; have HN := zA hnew; clear n0_ n1_ n2_ n3_ n4_ hb ho hg_ hnew))
  have hb5 := heap_alloc_new ((wa4.setCell ⟨gb1, 0, none⟩ (.int .i64 n)).setCell ⟨gb1, 1, none⟩ (.int .i64 v)) (.cells #[] 3)
  have hs5 : ((wa4.setCell ⟨gb1, 0, none⟩ (.int .i64 n)).setCell ⟨gb1, 1, none⟩ (.int .i64 v)).heap.size = wa4.heap.size := by simp [World.setCell]
  have q0 : ((wa4.setCell ⟨gb1, 0, none⟩ (.int .i64 n)).setCell ⟨gb1, 1, none⟩ (.int .i64 v)).heap[gb0]? = some (.cells #[.int .i64 0, .int .i64 0] 23 (0, 0)) := by (with_reducible repeat (first | refine blk_drewN ?_ _ | refine blk_drew ?_ | refine blk_alloc ?_ _)); refine blk_far ?_ NB0_1.out _; (with_reducible repeat (first | refine blk_drewN ?_ _ | refine blk_drew ?_ | refine blk_alloc ?_ _)); refine blk_far ?_ NB0_1.out _; (with_reducible repeat (first | refine blk_drewN ?_ _ | refine blk_drew ?_ | refine blk_alloc ?_ _)); exact BK0.out
  have q1 : ((wa4.setCell ⟨gb1, 0, none⟩ (.int .i64 n)).setCell ⟨gb1, 1, none⟩ (.int .i64 v)).heap[gb1]? = some (.cells #[.int .i64 n, .int .i64 v] 23 (0, 0)) := by (with_reducible repeat (first | refine blk_drewN ?_ _ | refine blk_drew ?_ | refine blk_alloc ?_ _)); refine blk_put (cs := #[.int .i64 n, .int .i64 0]) ?_ 1 _ rfl; (with_reducible repeat (first | refine blk_drewN ?_ _ | refine blk_drew ?_ | refine blk_alloc ?_ _)); refine blk_put (cs := #[.int .i64 0, .int .i64 0]) ?_ 0 _ rfl; (with_reducible repeat (first | refine blk_drewN ?_ _ | refine blk_drew ?_ | refine blk_alloc ?_ _)); exact BK1.out
  have q2 : IsS109 w ((wa4.setCell ⟨gb1, 0, none⟩ (.int .i64 n)).setCell ⟨gb1, 1, none⟩ (.int .i64 v)) g l0 i1 s1 := by repeat (first | (with_reducible first | exact HI.out | apply IsS109.alloc | apply IsS109.drewN | apply IsS109.drew | apply IsS109.set_1 | apply IsS109.set_2 | refine IsS109.far ?_ NBg_0.out _ | refine IsS109.far ?_ NBg_1.out _) | exact HI.out)
  have q3 : Below w.heap.size w ((wa4.setCell ⟨gb1, 0, none⟩ (.int .i64 n)).setCell ⟨gb1, 1, none⟩ (.int .i64 v)) := by repeat (first | (with_reducible first | exact HB.out | apply below_alloc | apply pw_below_drewN | apply below_drew1 | refine below_set ?_ (IsS109.ge HI.out) | refine below_set ?_ GE0.out | refine below_set ?_ GE1.out) | exact HB.out)
  clear BK0 BK1 HI HB hz0 hz1 hf0 hf1
  rw [← hs5]
  clear hs5
  generalize (wa4.setCell ⟨gb1, 0, none⟩ (.int .i64 n)).setCell ⟨gb1, 1, none⟩ (.int .i64 v) = W5 at *
  have BK0 := zA (blk_alloc q0 (.cells #[] 3))
  have BK1 := zA (blk_alloc q1 (.cells #[] 3))
  have HI := zA (IsS109.alloc q2 (.cells #[] 3))
  have HB := zA (below_alloc q3 (.cells #[] 3))
  have HO := zA (lit_none W5 q3.size)
  clear q0 q1 q2 q3 hb5
  generalize W5.alloc (.cells #[] 3) = W6 at BK0 BK1 HI HB HO ⊢
  go_loopg [6, 7] 7 (fun kq v6 v7 w' => ∃ (b c : Nat) (x : List Int) (i st : Int), v6 = .slice (some ⟨b, 0, none⟩) x.length c ∧ v7 = .int .i64 (x.length : Int) ∧ Aside0 (kq + x.length = 7 ∧ x.length ≤ 6) ∧ Aside0 (0 ≤ i) ∧ Aside0 (w'.heap[gb0]? = some (.cells #[.int .i64 0, .int .i64 0] 23 (0, 0))) ∧ Aside0 (w'.heap[gb1]? = some (.cells #[.int .i64 n, .int .i64 v] 23 (0, 0))) ∧ Aside0 (IsS109 w w' g l0 i st) ∧ Aside0 (Below w.heap.size w w') ∧ Aside0 (Kd.R (Kd.int .i64) 3 w' w.heap.size (fun _ => True) (.slice (some ⟨b, 0, none⟩) x.length c) x))
  case atStart => exact ⟨_, _, [], _, _, rfl, rfl, ⟨rfl, by simp⟩, J1, BK0, BK1, HI, HB, HO⟩
  case round =>
    clear BK0 BK1 HI HB HO J1
    obtain ⟨b, c, x, i, st, rfl, rfl, HK, J1, BK0, BK1, HI, HB, HO⟩ := hrel
    have hz0 := zc0 BK1
    have hz1 := zc1 BK1
    have hf1 := blk_frozen BK1.out 0
    obtain ⟨m, hm⟩ : ∃ m, (if 6 < n then 6 else n) = m := ⟨_, rfl⟩
    have hm6 : m ≤ 6 := by split at hm <;> omega
    by_cases hlt : (x.length : Int) < m
    · have hx6 : x.length < 6 := by omega
      obtain ⟨kn, rfl⟩ : ∃ kn, gk = kn + 1 := ⟨gk - 1, by have := HK.out.1; omega⟩
      have hd : decide ((x.length : Int) < m) = true := decide_eq_true hlt
      have hwr : wrap64 ((x.length : Int) + 1) = (x.length : Int) + 1 := by unfold wrap64; omega
      have hwi : IntKind.i64.wrap ((x.length : Int) + 1) = (x.length : Int) + 1 := (i64_w _).trans hwr
      obtain ⟨r, i2, s2, e3, j2, r0, r1, -⟩ := Drw.below_ok l0 HL.out i st ((x.length : Int) + 1) J1.out (by omega)
      obtain ⟨q, rfl⟩ := Int.eq_ofNat_of_zero_le r0
      have hq : q ≤ x.length := by have := r1 (by omega); omega
      have A4 := zA e3
      have J2 := zA j2
      clear r0 r1 e3 j2 hlt
      obtain ⟨-, hxc, HC⟩ := Kd.R_reads' HO.out
      go_wp2_with (first | ((with_reducible refine gate_callee (f := 122) rfl ?_); refine goesL_ (some 25) rfl rfl Try.func122 (by kernel_rfl) rfl #[.pointer (some ⟨g, 0, none⟩), .int .i64 ((x.length : Int) + 1)] rfl zM ?_; (with_reducible refine (spec_l1Below.calls g l0 i st ((x.length : Int) + 1) (q : Int) i2 s2 w _ ?side1 ?side2 A4.out).mono ?_); (case side1 => repeat (first | (with_reducible first | exact HI.out | apply IsS109.alloc | apply IsS109.drewN | apply IsS109.drew | apply IsS109.set_1 | apply IsS109.set_2 | refine IsS109.far ?_ NBg_0.out _ | refine IsS109.far ?_ NBg_1.out _) | exact HI.out)); (case side2 => repeat (first | (with_reducible first | exact HB.out | apply below_alloc | apply pw_below_drewN | apply below_drew1 | refine below_set ?_ (IsS109.ge HI.out) | refine below_set ?_ GE0.out | refine below_set ?_ GE1.out) | exact HB.out)); rintro e wb1 ⟨rfl, hi, hb, hk⟩; refine ⟨_, rfl, ?_⟩; have n0_ := zA (KeepBut.blk hk (g' := gb0) (o := .cells #[.int .i64 0, .int .i64 0] 23 (0, 0)) (zD BK0) NB0_g.out (by simp)); have n1_ := zA (KeepBut.blk hk (g' := gb1) (o := .cells #[.int .i64 n, .int .i64 v] 23 (0, 0)) (zD BK1) NB1_g.out (by simp)); have n2_ := zA (Kd.R_mono (Kd.R_keep (IsS109.apart (show IsS109 w _ g l0 i st from by repeat (first | (with_reducible first | exact HI.out | apply IsS109.alloc | apply IsS109.drewN | apply IsS109.drew | apply IsS109.set_1 | apply IsS109.set_2 | refine IsS109.far ?_ NBg_0.out _ | refine IsS109.far ?_ NBg_1.out _) | exact HI.out)) (zR HO) (by decide)) hk (fun _ h => h.2)) (fun _ h => h.1)); clear BK0 BK1 HO HB HI; have BK0 := n0_; have BK1 := n1_; have HO := n2_; have HB := zA hb; have HI := zA hi; clear n0_ n1_ n2_ hb hi hk))
      clear hz0 hz1 hf1 HC hm hm6 hd
      have k1 : (0 : Int) ≤ (q : Int) := by omega
      have k2 : (q : Int) ≤ (x.length : Int) := by omega
      have k3 : (q : Int) ≤ (c : Int) := by omega
      have k4 : q ≤ c := by omega
      have HBS := zA HB.out.size
      obtain ⟨y1, hy1⟩ : ∃ y1, y1 = x.take q := ⟨_, rfl⟩
      obtain ⟨y2, hy2⟩ : ∃ y2, y2 = x.drop q := ⟨_, rfl⟩
      have l1 : y1.length = q := by rw [hy1, List.length_take]; omega
      have l2 : y2.length = x.length - q := by rw [hy2, List.length_drop]
      have HCQ : Aside0 (Kd.C (Kd.int .i64) wb1 (some ⟨b, 0, none⟩) q y1) := ⟨by
        have h := Kd.C_take (Kd.R_reads' HO.out).2.2 (m := q) hq
        rw [← hy1, l1] at h
        exact h⟩
      have HCD : Aside0 (∀ W, Kd.R (Kd.int .i64) 3 W w.heap.size (fun _ => True) (.slice (some ⟨b, 0, none⟩) x.length c) x → Kd.C (Kd.int .i64) W (if c = q then some ⟨b, 0, none⟩ else some ⟨b, q, none⟩) (x.length - q) y2) := ⟨by
        intro W h
        have h2 := Kd.C_drop (Kd.R_reads' h).2.2 (m := q) hq (Kd.R_reads' h).2.1
        rw [← hy2, l2] at h2
        have e : (if c = q then (some ⟨b, 0, none⟩ : Option Addr) else (some ⟨b, 0, none⟩ : Option Addr).map (·.add (q * (Kd.int .i64).sz))) = (if c = q then some ⟨b, 0, none⟩ else some ⟨b, q, none⟩) := by
          have e2 : (⟨b, 0, none⟩ : Addr).add (q * (Kd.int .i64).sz) = ⟨b, q, none⟩ := by
            rw [Addr.add_lit]
            have : q * (Kd.int .i64).sz = q := by show q * 1 = q; omega
            rw [this, Nat.zero_add]
          simp only [Option.map_some, e2]
        rw [e] at h2
        exact h2⟩
      have HY1 := zA hy1
      have HY2 := zA hy2
      have L1 := zA l1
      have L2 := zA l2
      clear hy1 hy2 l1 l2
      have OL0 := zA (Old.refl wb1)
      have BKz0 := BK0
      have BKz1 := BK1
      have HIz := HI
      go_region_law (first
        | (refine Kd.R_append_rows_step (Kd.int .i64) (w0 := w) w.heap.size (by rfl) (.tmp 26) (.tmp 29) 43 3 (.int .i64 0) 8 rfl Try.underlying43 info3 rfl (by decide) (by decide) (.slice (some ⟨wb1.heap.size, 0, none⟩) 0 0) [] y1 (some ⟨b, 0, none⟩) q c (fun _ => True) (fun _ => False) rfl rfl (Kd.R_drew (lit_none wb1 HBS.out)) (Kd.C_drew (Kd.C_alloc HCQ.out (.cells #[] 3))) (fun x cs h => h) (fun _ h => h.elim) (fun _ _ => trivial) (by repeat (first | exact HB.out | exact HBq.out | apply below_alloc | apply below_drew1)) (Below.size (B := w.heap.size) (by repeat (first | exact HB.out | exact HBq.out | apply below_alloc | apply below_drew1))) (by have h1_ := L1.out; have h2_ := L2.out; (try simp); omega) ?_
           intro v1 w1 hr1 hb1 hg1 ha1
           rw [List.nil_append] at hr1
           have OL1 := zA (Old.grown (Old.drew (Old.alloc OL0.out (.cells #[] 3))) hg1 (fun k hk => by (have e : wb1.heap.size = k := (by simpa [Value.ownBlock] using hk)); omega))
           have HA1 : Aside0 (∀ k, v1.ownBlock = some k → wb1.heap.size ≤ k) := ⟨by
             intro k hk
             rcases ha1 with e | ⟨b2, e, hb2⟩
             · rw [e] at hk
               have e2 : wb1.heap.size = k := by simpa [Value.ownBlock] using hk
               omega
             · rw [e] at hk
               cases hk
               exact Nat.le_trans (Old.drew (Old.alloc OL0.out (.cells #[] 3))).1 hb2⟩
           have HBq := zA hb1
           have HR1 := zA hr1
           obtain ⟨A1, cc1, rfl⟩ := Kd.R_slice hr1
           clear hr1 hg1 ha1 hb1)
        | (refine Kd.R_append_rows_step (Kd.int .i64) (w0 := w) w.heap.size (by rfl) (.tmp 26) (.tmp 29) 43 3 (.int .i64 0) 8 rfl Try.underlying43 info3 rfl (by decide) (by decide) (.slice (some ⟨wb1.heap.size, 0, none⟩) 0 0) [] y1 (some ⟨b, 0, none⟩) q c (fun _ => True) (fun _ => False) rfl rfl (Kd.R_drew (Kd.R_alloc (lit_none wb1 HBS.out) (.cells #[.int .i64 (x.length : Int)] 3))) (Kd.C_drew (Kd.C_alloc (Kd.C_alloc HCQ.out (.cells #[] 3)) (.cells #[.int .i64 (x.length : Int)] 3))) (fun x cs h => h) (fun _ h => h.elim) (fun _ _ => trivial) (by repeat (first | exact HB.out | exact HBq.out | apply below_alloc | apply below_drew1)) (Below.size (B := w.heap.size) (by repeat (first | exact HB.out | exact HBq.out | apply below_alloc | apply below_drew1))) (by have h1_ := L1.out; have h2_ := L2.out; (try simp); omega) ?_
           intro v1 w1 hr1 hb1 hg1 ha1
           rw [List.nil_append] at hr1
           have OL1 := zA (Old.grown (Old.drew (Old.alloc (Old.alloc OL0.out (.cells #[] 3)) (.cells #[.int .i64 (x.length : Int)] 3))) hg1 (fun k hk => by (have e : wb1.heap.size = k := (by simpa [Value.ownBlock] using hk)); omega))
           have HA1 : Aside0 (∀ k, v1.ownBlock = some k → wb1.heap.size ≤ k) := ⟨by
             intro k hk
             rcases ha1 with e | ⟨b2, e, hb2⟩
             · rw [e] at hk
               have e2 : wb1.heap.size = k := by simpa [Value.ownBlock] using hk
               omega
             · rw [e] at hk
               cases hk
               exact Nat.le_trans (Old.drew (Old.alloc (Old.alloc OL0.out (.cells #[] 3)) (.cells #[.int .i64 (x.length : Int)] 3))).1 hb2⟩
           have HKr := zA (Kd.R_mono (Kd.R_grown (Kd.R_tight rfl (Kd.R_drew (lit_one (wb1.alloc (.cells #[] 3)) (b := w.heap.size) (Nat.le_trans HBS.out (Nat.le_of_lt (by simp))) (x.length : Int)))) hg1 (fun k hk => by (have e : (wb1.alloc (.cells #[] 3)).heap.size = k := (by simpa [Value.ownBlock] using hk.symm)); simp [Value.ownBlock] at e ⊢; omega)) (fun _ _ => trivial))
           have HBq := zA hb1
           have HR1 := zA hr1
           obtain ⟨A1, cc1, rfl⟩ := Kd.R_slice hr1
           clear hr1 hg1 ha1 hb1)
        | (refine Kd.R_append_rows_step (Kd.int .i64) (w0 := w) w.heap.size (by rfl) (.tmp 26) (.tmp 29) 43 3 (.int .i64 0) 8 rfl Try.underlying43 info3 rfl (by decide) (by decide) (.slice (some ⟨wb1.heap.size + 1, 0, none⟩) 0 0) [] y1 (some ⟨b, 0, none⟩) q c (fun _ => True) (fun _ => False) rfl rfl (by have h := Kd.R_drew (lit_none (wb1.alloc (.cells #[.int .i64 (x.length : Int)] 3)) (b := w.heap.size) (Nat.le_trans HBS.out (Nat.le_of_lt (by simp)))); simpa only [World.size_alloc] using h) (Kd.C_drew (Kd.C_alloc (Kd.C_alloc HCQ.out (.cells #[.int .i64 (x.length : Int)] 3)) (.cells #[] 3))) (fun x cs h => h) (fun _ h => h.elim) (fun _ _ => trivial) (by repeat (first | exact HB.out | exact HBq.out | apply below_alloc | apply below_drew1)) (Below.size (B := w.heap.size) (by repeat (first | exact HB.out | exact HBq.out | apply below_alloc | apply below_drew1))) (by have h1_ := L1.out; have h2_ := L2.out; (try simp); omega) ?_
           intro v1 w1 hr1 hb1 hg1 ha1
           rw [List.nil_append] at hr1
           have OL1 := zA (Old.grown (Old.drew (Old.alloc (Old.alloc OL0.out (.cells #[.int .i64 (x.length : Int)] 3)) (.cells #[] 3))) hg1 (fun k hk => by (have e : wb1.heap.size + 1 = k := (by simpa [Value.ownBlock] using hk)); omega))
           have HA1 : Aside0 (∀ k, v1.ownBlock = some k → wb1.heap.size ≤ k) := ⟨by
             intro k hk
             rcases ha1 with e | ⟨b2, e, hb2⟩
             · rw [e] at hk
               have e2 : wb1.heap.size + 1 = k := by simpa [Value.ownBlock] using hk
               omega
             · rw [e] at hk
               cases hk
               exact Nat.le_trans (Old.drew (Old.alloc (Old.alloc OL0.out (.cells #[.int .i64 (x.length : Int)] 3)) (.cells #[] 3))).1 hb2⟩
           have HKr := zA (Kd.R_mono (Kd.R_grown (Kd.R_tight rfl (Kd.R_drew (Kd.R_alloc (lit_one wb1 HBS.out (x.length : Int)) (.cells #[] 3)))) hg1 (fun k hk => by (have e : wb1.heap.size = k := (by simpa [Value.ownBlock] using hk.symm)); simp [Value.ownBlock]; omega)) (fun _ _ => trivial))
           have HBq := zA hb1
           have HR1 := zA hr1
           obtain ⟨A1, cc1, rfl⟩ := Kd.R_slice hr1
           clear hr1 hg1 ha1 hb1)
        | (refine Kd.R_append_rows_step (Kd.int .i64) (w0 := w) w.heap.size (by rfl) (.tmp 30) (.tmp 32) 43 3 (.int .i64 0) 8 rfl Try.underlying43 info3 rfl (by decide) (by decide) (.slice A1 y1.length cc1) y1 [(x.length : Int)] (some ⟨w1.heap.size, 0, none⟩) 1 1 (fun _ => True) (fun _ => False) rfl rfl (Kd.R_alloc HR1.out (.cells #[.int .i64 (x.length : Int)] 3)) (Kd.R_reads' (lit_one w1 HBq.out.size (x.length : Int))).2.2 (fun x cs h => h) (fun _ h => h.elim) (fun _ _ => trivial) (by repeat (first | exact HB.out | exact HBq.out | apply below_alloc | apply below_drew1)) (Below.size (B := w.heap.size) (by repeat (first | exact HB.out | exact HBq.out | apply below_alloc | apply below_drew1))) (by have h1_ := L1.out; have h2_ := L2.out; (try simp); omega) ?_
           intro v2 w2 hr2 hb2 hg2 ha2
           have OL2 := zA (Old.grown (Old.alloc OL1.out (.cells #[.int .i64 (x.length : Int)] 3)) hg2 HA1.out)
           have HA2 : Aside0 (∀ k, v2.ownBlock = some k → wb1.heap.size ≤ k) := ⟨by
             intro k hk
             rcases ha2 with e | ⟨b2, e, hb2⟩
             · rw [e] at hk
               exact HA1.out k hk
             · rw [e] at hk
               cases hk
               exact Nat.le_trans (Old.alloc OL1.out (.cells #[.int .i64 (x.length : Int)] 3)).1 hb2⟩
           clear HBq
           have HBq := zA hb2
           obtain ⟨A2, cc2, rfl⟩ := Kd.R_slice hr2
           have e3_ : (y1 ++ [(x.length : Int)]).length = y1.length + 1 := by simp
           rw [e3_] at hr2
           simp only [e3_] at HA2
           have HR2 := zA hr2
           (try rw [e3_])
           clear e3_ hr2 hg2 ha2 hb2)
        | (refine Kd.R_append_rows_step (Kd.int .i64) (w0 := w) w.heap.size (by rfl) (.tmp 30) (.tmp 32) 43 3 (.int .i64 0) 8 rfl Try.underlying43 info3 rfl (by decide) (by decide) (.slice A1 y1.length cc1) y1 [(x.length : Int)] (some ⟨wb1.heap.size + 1, 0, none⟩) 1 1 (fun _ => True) (fun _ => False) rfl rfl HR1.out (by have h := (Kd.R_reads' HKr.out).2.2; rw [show (wb1.alloc (.cells #[] 3)).heap.size = wb1.heap.size + 1 by simp] at h; exact h) (fun x cs h => h) (fun _ h => h.elim) (fun _ _ => trivial) (by repeat (first | exact HB.out | exact HBq.out | apply below_alloc | apply below_drew1)) (Below.size (B := w.heap.size) (by repeat (first | exact HB.out | exact HBq.out | apply below_alloc | apply below_drew1))) (by have h1_ := L1.out; have h2_ := L2.out; (try simp); omega) ?_
           intro v2 w2 hr2 hb2 hg2 ha2
           have OL2 := zA (Old.grown (OL1.out) hg2 HA1.out)
           have HA2 : Aside0 (∀ k, v2.ownBlock = some k → wb1.heap.size ≤ k) := ⟨by
             intro k hk
             rcases ha2 with e | ⟨b2, e, hb2⟩
             · rw [e] at hk
               exact HA1.out k hk
             · rw [e] at hk
               cases hk
               exact Nat.le_trans (OL1.out).1 hb2⟩
           clear HBq
           have HBq := zA hb2
           obtain ⟨A2, cc2, rfl⟩ := Kd.R_slice hr2
           have e3_ : (y1 ++ [(x.length : Int)]).length = y1.length + 1 := by simp
           rw [e3_] at hr2
           simp only [e3_] at HA2
           have HR2 := zA hr2
           (try rw [e3_])
           clear e3_ hr2 hg2 ha2 hb2)
        | (refine Kd.R_append_rows_step (Kd.int .i64) (w0 := w) w.heap.size (by rfl) (.tmp 30) (.tmp 32) 43 3 (.int .i64 0) 8 rfl Try.underlying43 info3 rfl (by decide) (by decide) (.slice A1 y1.length cc1) y1 [(x.length : Int)] (some ⟨wb1.heap.size, 0, none⟩) 1 1 (fun _ => True) (fun _ => False) rfl rfl HR1.out (Kd.R_reads' HKr.out).2.2 (fun x cs h => h) (fun _ h => h.elim) (fun _ _ => trivial) (by repeat (first | exact HB.out | exact HBq.out | apply below_alloc | apply below_drew1)) (Below.size (B := w.heap.size) (by repeat (first | exact HB.out | exact HBq.out | apply below_alloc | apply below_drew1))) (by have h1_ := L1.out; have h2_ := L2.out; (try simp); omega) ?_
           intro v2 w2 hr2 hb2 hg2 ha2
           have OL2 := zA (Old.grown (OL1.out) hg2 HA1.out)
           have HA2 : Aside0 (∀ k, v2.ownBlock = some k → wb1.heap.size ≤ k) := ⟨by
             intro k hk
             rcases ha2 with e | ⟨b2, e, hb2⟩
             · rw [e] at hk
               exact HA1.out k hk
             · rw [e] at hk
               cases hk
               exact Nat.le_trans (OL1.out).1 hb2⟩
           clear HBq
           have HBq := zA hb2
           obtain ⟨A2, cc2, rfl⟩ := Kd.R_slice hr2
           have e3_ : (y1 ++ [(x.length : Int)]).length = y1.length + 1 := by simp
           rw [e3_] at hr2
           simp only [e3_] at HA2
           have HR2 := zA hr2
           (try rw [e3_])
           clear e3_ hr2 hg2 ha2 hb2)
        | (refine Kd.R_append_rows_step (Kd.int .i64) (w0 := w) w.heap.size (by rfl) (.tmp 33) (.tmp 36) 43 3 (.int .i64 0) 8 rfl Try.underlying43 info3 rfl (by decide) (by decide) (.slice A2 (y1.length + 1) cc2) (y1 ++ [(x.length : Int)]) y2 (if c = q then some ⟨b, 0, none⟩ else some ⟨b, q, none⟩) (x.length - q) (c - q) (fun _ => True) (fun _ => False) rfl rfl HR2.out (HCD.out _ (Old.row OL2.out HO.out)) (fun x cs h => h) (fun _ h => h.elim) (fun _ _ => trivial) (by repeat (first | exact HB.out | exact HBq.out | apply below_alloc | apply below_drew1)) (Below.size (B := w.heap.size) (by repeat (first | exact HB.out | exact HBq.out | apply below_alloc | apply below_drew1))) (by have h1_ := L1.out; have h2_ := L2.out; (try simp); omega) ?_
           intro v3 w3 hr3 hb3 hg3 ha3
           have OL3 := zA (Old.grown OL2.out hg3 HA2.out)
           have HR3 := zA hr3
           have HB3 := zA hb3
           obtain ⟨b3, cc3, rfl, -⟩ := Kd.R_form hr3 (by simp; omega)
           clear hr3 hg3 ha3 hb3))
      all_goals
        clear BK0 BK1 HI
        have BK0 := zA (Old.blk OL3.out BKz0.out)
        have BK1 := zA (Old.blk OL3.out BKz1.out)
        have HI := zA (Old.cur OL3.out HIz.out)
        clear BKz0 BKz1 HIz HO
        go_wp2_with (fail)
        all_goals
          go_roundg kn
          case measure => have h1_ := HK.out; omega
          case rel => exact ⟨b3, cc3, y1 ++ [(x.length : Int)] ++ y2, i2, s2, (by simp), (by have h1_ := L1.out; have h2_ := L2.out; congr 1; simp; omega), ⟨by have h1_ := L1.out; have h2_ := L2.out; have h3_ := HK.out; simp; omega, by have h1_ := L1.out; have h2_ := L2.out; simp; omega⟩, J2, BK0, BK1, HI, HB3, HR3⟩
    · have hd : decide ((x.length : Int) < m) = false := decide_eq_false hlt
      have hg0 : wr.cell? ⟨gb0, 0, none⟩ = some (.int .i64 0) := (blk_cell BK0.out 0).trans rfl
      have hg1 : wr.cell? ⟨gb0, 1, none⟩ = some (.int .i64 0) := (blk_cell BK0.out 1).trans rfl
      have hh0 := blk_frozen BK0.out 0
      have hh1 := blk_frozen BK0.out 1
      have hx6 : x.length ≤ 6 := HK.out.2
      have HX6 := zA hx6
      clear hlt hm6 hx6
      by_cases hx0 : 0 < x.length
      · have px : decide (0 < x.length) = true := decide_eq_true hx0
        have pz : decide ((0 : Int) < (x.length : Int)) = true := decide_eq_true (by omega)
        obtain ⟨r, i3, s3, e3, j3, -⟩ := Drw.below_ok l0 HL.out i st 8 J1.out (by omega)
        have e4 : spec_l1Once.f l0 i st 8 = some (r == 0, i3, s3) := by
          unfold spec_l1Once.f
          rw [e3]
          rfl
        obtain ⟨o, ho⟩ : ∃ o, (r == 0) = o := ⟨_, rfl⟩
        rw [ho] at e4
        have A5 := zA e4
        have J3 := zA j3
        clear e3 e4 j3 ho
        go_wp2_with (fail)
        refine (spec_l1Once.calls g l0 i st 8 o i3 s3 w _ HI.out HB.out A5.out).mono ?_
        rintro e wc1 ⟨rfl, hi, hb, hk⟩
        have n0_ := zA (KeepBut.blk hk (g' := gb0) (o := .cells #[.int .i64 0, .int .i64 0] 23 (0, 0)) BK0.out NB0_g.out (by simp))
        have n1_ := zA (KeepBut.blk hk (g' := gb1) (o := .cells #[.int .i64 n, .int .i64 v] 23 (0, 0)) BK1.out NB1_g.out (by simp))
        have n2_ := zA (Kd.R_mono (Kd.R_keep (IsS109.apart HI.out HO.out (by decide)) hk (fun _ h => h.2)) (fun _ h => h.1))
        clear BK0 BK1 HO HB HI hg0 hg1 hh0 hh1 hz0 hz1 hf1
        have BK0 := n0_
        have BK1 := n1_
        have HO := n2_
        have HB := zA hb
        have HI := zA hi
        clear n0_ n1_ n2_ hb hi hk
        cases o
        · have hg0 : wc1.cell? ⟨gb0, 0, none⟩ = some (.int .i64 0) := (blk_cell BK0.out 0).trans rfl
          have hg1 : wc1.cell? ⟨gb0, 1, none⟩ = some (.int .i64 0) := (blk_cell BK0.out 1).trans rfl
          have hh0 := blk_frozen BK0.out 0
          have hh1 := blk_frozen BK0.out 1
          have hz0 := zc0 BK1
          have hz1 := zc1 BK1
          go_wp2_with (fail)
          refine bodyPost_ret (results_ct rfl _ _ gb0 23 #[.int .i64 n, .int .i64 v] (0, 0) _ rfl (zP BK0) Try.underlying23 rfl (by kernel_rfl)) rfl ?_
          have hok := Kd.R_types HO.out BK0.out (by decide)
          exact ⟨n, v, _, _, x, rfl, HX6.out, (Kd.R_reads' HO.out).2.1, (Kd.R_reads' (Kd.R_far (Kd.R_far hok (fun k hk => hk.2) _) (fun k hk => hk.2) _)).2.2, by repeat (first | exact HB.out | refine below_set ?_ GE0.out)⟩
        · obtain ⟨r4, i4, s4, e5, j4, r40, r41, -⟩ := Drw.below_ok l0 HL.out i3 s3 4 J3.out (by omega)
          obtain ⟨R4, rfl⟩ := Int.eq_ofNat_of_zero_le r40
          have hr4 : (R4 : Int) < 4 := r41 (by omega)
          obtain ⟨pv, hpv⟩ : ∃ pv, rd [-1, 0, 5, 9223372036854775807] (R4 : Int) = pv := ⟨_, rfl⟩
          have e6 : spec_l1PickInt.f l0 i3 s3 [-1, 0, 5, 9223372036854775807] = some (pv, i4, s4) := by
            unfold spec_l1PickInt.f
            rw [show ((([-1, 0, 5, 9223372036854775807] : List Int).length : Nat) : Int) = 4 from rfl, e5]
            simp only [Option.bind_some]
            rw [if_pos (by omega), if_pos hr4, hpv]
          have A6 := zA e6
          clear e5 e6 hpv hr4 r40 r41 j4
          go_wp2_with (fail)
          refine (spec_l1PickInt.calls g l0 i3 s3 (some ⟨wc1.heap.size, 0, none⟩) 4 [-1, 0, 5, 9223372036854775807] pv i4 s4 w _ (IsS109.alloc HI.out _) (below_alloc HB.out _) (Kd.R_reads' (lit_four wc1 HB.out.size)).2.2 (by decide) (by intro ad had _; cases had; exact Nat.ne_of_gt (IsS109.lt HI.out)) A6.out).mono ?_
          rintro e wd1 ⟨rfl, hi, hb, hk⟩
          have n0_ := zA (KeepBut.blk hk (g' := gb0) (o := .cells #[.int .i64 0, .int .i64 0] 23 (0, 0)) (blk_alloc BK0.out _) NB0_g.out (by simp))
          have n1_ := zA (KeepBut.blk hk (g' := gb1) (o := .cells #[.int .i64 n, .int .i64 v] 23 (0, 0)) (blk_alloc BK1.out _) NB1_g.out (by simp))
          have n2_ := zA (Kd.R_mono (Kd.R_keep (IsS109.apart (IsS109.alloc HI.out _) (Kd.R_alloc HO.out _) (by decide)) hk (fun _ h => h.2)) (fun _ h => h.1))
          clear BK0 BK1 HO HB HI
          have BK0 := n0_
          have BK1 := n1_
          have HO := n2_
          have HB := zA hb
          have HI := zA hi
          clear n0_ n1_ n2_ hb hi hk
          have hg0 : wd1.cell? ⟨gb0, 0, none⟩ = some (.int .i64 0) := (blk_cell BK0.out 0).trans rfl
          have hg1 : wd1.cell? ⟨gb0, 1, none⟩ = some (.int .i64 0) := (blk_cell BK0.out 1).trans rfl
          have hh0 := blk_frozen BK0.out 0
          have hh1 := blk_frozen BK0.out 1
          have hz0 := zc0 BK1
          have hz1 := zc1 BK1
          have hrc := Kd.R_celln (0 : Int) HO.out 0 (by decide) (by omega)
          have hp0 : wd1.cell? ⟨b, 0, none⟩ = some (.int .i64 (rdOf 0 x 0)) := hrc.1
          have hp1 : wd1.frozen? ⟨b, 0, none⟩ = false := hrc.2
          clear hrc
          have hb0 : gb0 ≠ b := fun e => Kd.R_ne HO.out BK0.out (by decide) (by rw [e]; rfl)
          have hb1 : gb1 ≠ b := fun e => Kd.R_ne HO.out BK1.out (by decide) (by rw [e]; rfl)
          have hb2 : b ≠ gb0 := Ne.symm hb0
          have hb3 : b ≠ gb1 := Ne.symm hb1
          go_wp2_with (fail)
          refine bodyPost_ret (results_ct rfl _ _ gb0 23 #[.int .i64 n, .int .i64 v] (0, 0) _ rfl (by (with_reducible repeat (first | refine blk_drewN ?_ _ | refine blk_drew ?_ | refine blk_alloc ?_ _)); refine blk_put (cs := #[.int .i64 n, .int .i64 0]) ?_ 1 _ rfl; (with_reducible repeat (first | refine blk_drewN ?_ _ | refine blk_drew ?_ | refine blk_alloc ?_ _)); refine blk_put (cs := #[.int .i64 0, .int .i64 0]) ?_ 0 _ rfl; (with_reducible repeat (first | refine blk_drewN ?_ _ | refine blk_drew ?_ | refine blk_alloc ?_ _)); refine blk_far ?_ hb0 _; (with_reducible repeat (first | refine blk_drewN ?_ _ | refine blk_drew ?_ | refine blk_alloc ?_ _)); exact BK0.out) Try.underlying23 rfl (by kernel_rfl)) rfl ?_
          have hok := Kd.R_types HO.out BK0.out (by decide)
          have hpo := Kd.R_putn hok 0 pv
          have hbo : w.heap.size ≤ b := Kd.R_base HO.out b rfl
          have hfin := Kd.R_far (Kd.R_far hpo (p := ⟨gb0, 0, none⟩) (fun k hk => hk.2) (.int .i64 n)) (p := ⟨gb0, 1, none⟩) (fun k hk => hk.2) (.int .i64 v)
          have hlen : (x.set (0 : Int).toNat pv).length = x.length := List.length_set
          refine ⟨n, v, some ⟨b, 0, none⟩, c, x.set (0 : Int).toNat pv, by rw [hlen]; rfl, by rw [hlen]; exact HX6.out, by rw [hlen]; exact (Kd.R_reads' HO.out).2.1, (Kd.R_reads' hfin).2.2, by repeat (first | exact HB.out | refine below_set ?_ GE0.out | refine below_set ?_ hbo)⟩
      · have px : decide (0 < x.length) = false := decide_eq_false hx0
        have pz : decide ((0 : Int) < (x.length : Int)) = false := decide_eq_false (by omega)
        go_wp2_with (fail)
        refine bodyPost_ret (results_ct rfl _ _ gb0 23 #[.int .i64 n, .int .i64 v] (0, 0) _ rfl (zP BK0) Try.underlying23 rfl (by kernel_rfl)) rfl ?_
        have hok := Kd.R_types HO.out BK0.out (by decide)
        exact ⟨n, v, _, _, x, rfl, HX6.out, (Kd.R_reads' HO.out).2.1, (Kd.R_reads' (Kd.R_far (Kd.R_far hok (fun k hk => hk.2) _) (fun k hk => hk.2) _)).2.2, by repeat (first | exact HB.out | refine below_set ?_ GE0.out)⟩
end Go.Proofs.Ytijpcemcijaeeaa.P
