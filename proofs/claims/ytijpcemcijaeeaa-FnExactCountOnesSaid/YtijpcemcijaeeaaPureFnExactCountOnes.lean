/- The law FnExactCountOnes: its plain function answers true for all its arguments. No conditions but those of the statement. -/
import Derived.Test.YtijpcemcijaeeaaRes
import Derived.Test.YtijpcemcijaeeaaPLFnExactCountOnes
import Derived.Test.YtijpcemcijaeeaaPLFnExactCountOnes
import Derived.Test.YtijpcemcijaeeaaPa0
import Derived.Test.YtijpcemcijaeeaaPb0
namespace Go.Proofs.Ytijpcemcijaeeaa.Pure
set_option linter.unusedVariables false
set_option linter.unusedSimpArgs false
open Go Go.RowKit Go.Proofs.Ytijpcemcijaeeaa.P Go.Proofs.Ytijpcemcijaeeaa.Bits Go.Proofs.Ytijpcemcijaeeaa.Tab Go.Proofs.YtijpcemcijaeeaaW.PrintWords Go.Proofs.YtijpcemcijaeeaaW.PrintLast Go.Proofs.YtijpcemcijaeeaaW.PrintMore

theorem uwrap_nat (n : Nat) (h : n < 2 ^ 64) : IntKind.u64.wrap (n : Int) = (n : Int) := by
  unfold IntKind.wrap
  simp [IntKind.bits, IntKind.signed]
  omega

theorem uofInt_nat (a : Nat) (ha : a < 2 ^ 64) : (BitVec.ofInt 64 (a : Int)).toNat = a := by
  rw [BitVec.ofInt_natCast, BitVec.toNat_ofNat]
  exact Nat.mod_eq_of_lt ha

theorem uand_nat (a b : Nat) (ha : a < 2 ^ 64) (hb : b < 2 ^ 64) : bits .and .u64 (a : Int) (b : Int) = ((a &&& b : Nat) : Int) := by
  show IntKind.u64.wrap (((BitVec.ofInt 64 (a : Int) &&& BitVec.ofInt 64 (b : Int)).toNat : Nat) : Int) = _
  rw [BitVec.toNat_and, uofInt_nat a ha, uofInt_nat b hb]
  exact uwrap_nat _ (Nat.and_lt_two_pow _ hb)

theorem and_join {a b c d : Nat} (hb : b < 256) (hd : d < 256) : (256 * a + b) &&& (256 * c + d) = 256 * (a &&& c) + (b &&& d) := by
  have h1 : b &&& d < 2 ^ 8 := Nat.lt_of_le_of_lt Nat.and_le_left hb
  apply Nat.eq_of_testBit_eq
  intro j
  rw [Nat.testBit_and, show 256 = 2 ^ 8 from rfl, Nat.testBit_two_pow_mul_add _ hb, Nat.testBit_two_pow_mul_add _ hd, Nat.testBit_two_pow_mul_add _ h1]
  split
  · rw [Nat.testBit_and]
  · rw [Nat.testBit_and]

def t1 (x m : Nat) : Nat := (x / 2 &&& m) + (x &&& m)
def t2 (x m : Nat) : Nat := (x / 4 &&& m) + (x &&& m)
def t3 (x m : Nat) : Nat := (x / 16 + x) &&& m
def g1 (b : Nat) : Nat := t1 b 85
def g2 (b : Nat) : Nat := t2 b 51
def g3 (b : Nat) : Nat := t3 b 15
def g (b : Nat) : Nat := g3 (g2 (g1 b))

theorem b1 : ∀ (e : Fin 2) (b : Fin 256), (128 * e.val + b.val / 2) &&& 85 = b.val / 2 &&& 85 := by decide +kernel
theorem b2 : ∀ (e : Fin 4) (b : Fin 256), (64 * e.val + b.val / 4) &&& 51 = b.val / 4 &&& 51 := by decide +kernel
theorem b3 : ∀ (e : Fin 5) (b : Fin 69), (16 * e.val + b.val / 16 + b.val) &&& 15 = (b.val / 16 + b.val) &&& 15 := by decide +kernel
theorem g1_lt : ∀ b : Fin 256, g1 b.val < 256 := by decide +kernel
theorem g2_lt : ∀ b : Fin 256, g2 (g1 b.val) < 69 ∧ g2 (g1 b.val) % 16 < 5 := by decide +kernel
def pc : Nat → Nat → Nat
  | 0, _ => 0
  | m + 1, x => x % 2 + pc m (x / 2)
theorem g_is : ∀ b : Fin 256, g b.val = pc 8 b.val ∧ g b.val ≤ 8 := by decide +kernel

theorem t1_step {a b m : Nat} (hb : b < 256) : t1 (256 * a + b) (256 * m + 85) = 256 * t1 a m + g1 b := by
  have e := b1 ⟨a % 2, by omega⟩ ⟨b, hb⟩
  simp only at e
  unfold g1 t1
  rw [show (256 * a + b) / 2 = 256 * (a / 2) + (128 * (a % 2) + b / 2) by omega, and_join (by omega) (by decide), and_join hb (by decide), e]
  omega

theorem t2_step {a b m : Nat} (hb : b < 256) : t2 (256 * a + b) (256 * m + 51) = 256 * t2 a m + g2 b := by
  have e := b2 ⟨a % 4, by omega⟩ ⟨b, hb⟩
  simp only at e
  unfold g2 t2
  rw [show (256 * a + b) / 4 = 256 * (a / 4) + (64 * (a % 4) + b / 4) by omega, and_join (by omega) (by decide), and_join hb (by decide), e]
  omega

theorem t3_step {a b m : Nat} (hb : b < 69) (ha : a % 16 < 5) : t3 (256 * a + b) (256 * m + 15) = 256 * t3 a m + g3 b := by
  have e := b3 ⟨a % 16, ha⟩ ⟨b, hb⟩
  simp only at e
  unfold g3 t3
  rw [show (256 * a + b) / 16 + (256 * a + b) = 256 * (a / 16 + a) + (16 * (a % 16) + b / 16 + b) by omega, and_join (by omega) (by decide), e]

theorem pc_split : ∀ (s m a b : Nat), b < 2 ^ s → pc (s + m) (2 ^ s * a + b) = pc s b + pc m a := by
  intro s
  induction s with
  | zero =>
    intro m a b hb
    obtain rfl : b = 0 := by omega
    simp [pc]
  | succ s ih =>
    intro m a b hb
    rw [Nat.pow_succ] at hb
    have e : 2 ^ (s + 1) * a = 2 * (2 ^ s * a) := by rw [Nat.pow_succ, Nat.mul_comm (2 ^ s) 2, Nat.mul_assoc]
    rw [show s + 1 + m = (s + m) + 1 by omega, pc, pc, e, show (2 * (2 ^ s * a) + b) / 2 = 2 ^ s * a + b / 2 by omega, ih m a (b / 2) (by omega)]
    omega

theorem pc32 {x b0 b1 b2 b3 : Nat} (hx : x = 256 * (256 * (256 * b3 + b2) + b1) + b0) (h0 : b0 < 256) (h1 : b1 < 256) (h2 : b2 < 256) (h3 : b3 < 256) : pc 32 x = pc 8 b0 + pc 8 b1 + pc 8 b2 + pc 8 b3 := by
  have e0 := pc_split 8 24 (256 * (256 * b3 + b2) + b1) b0 h0
  have e1 := pc_split 8 16 (256 * b3 + b2) b1 h1
  have e2 := pc_split 8 8 b3 b2 h2
  rw [hx]
  simp only [show (2 : Nat) ^ 8 = 256 from rfl] at e0 e1 e2
  rw [show 8 + 24 = 32 from rfl] at e0
  rw [show 8 + 16 = 24 from rfl] at e1
  rw [show 8 + 8 = 16 from rfl] at e2
  omega

theorem count_loop : ∀ (m x k : Nat) (c : Nat), x < 2 ^ m → m ≤ 32 → c + m ≤ 32 → m < k → spec_l2Count.l0 k (c : Int) (x : Int) = some ((c + pc m x : Nat) : Int) := by
  intro m
  induction m with
  | zero =>
    intro x k c hx hm hc hk
    obtain ⟨k, rfl⟩ : ∃ q, k = q + 1 := ⟨k - 1, by omega⟩
    obtain rfl : x = 0 := by omega
    simp only [spec_l2Count.l0, pc]
    rw [if_neg (by omega)]
    rfl
  | succ m ih =>
    intro x k c hx hm hc hk
    obtain ⟨k, rfl⟩ : ∃ q, k = q + 1 := ⟨k - 1, by omega⟩
    have hp : 2 ^ (m + 1) ≤ 2 ^ 32 := Nat.pow_le_pow_right (by decide) hm
    have q32 : (2 : Nat) ^ 32 = 4294967296 := by decide
    rw [Nat.pow_succ] at hx
    simp only [spec_l2Count.l0]
    by_cases h0 : x = 0
    · subst h0
      rw [if_neg (by omega)]
      have ih' := ih 0 (m + 1) c (by have := Nat.two_pow_pos m; omega) (by omega) (by omega) (by omega)
      rw [spec_l2Count.l0, if_neg (by omega)] at ih'
      simp only [Option.some.injEq] at ih'
      simp only [pc, Nat.zero_mod, Nat.zero_div, Nat.zero_add]
      rw [← ih']
    · rw [if_pos (by omega), and_int (by omega) (by omega) (by omega) (by omega)]
      have e1 : (x : Int).toNat &&& (1 : Int).toNat = x % 2 := by
        rw [Int.toNat_natCast, show (1 : Int).toNat = 1 from rfl, Nat.and_one_is_mod]
      rw [e1, w64 (by omega) (by omega)]
      have ih' := ih (x / 2) k (c + x % 2) (by omega) (by omega) (by omega) (by omega)
      rw [show ((c + x % 2 : Nat) : Int) = (c : Int) + ((x % 2 : Nat) : Int) from by omega, show ((x / 2 : Nat) : Int) = (x : Int) / 2 from by omega] at ih'
      rw [ih', pc]
      simp only [Option.some.injEq]
      omega

def s1 (x : Int) : Int := IntKind.u64.wrap (bits .and .u64 (x / 2) 6148914691236517205 + bits .and .u64 x 6148914691236517205)
def s2 (y : Int) : Int := IntKind.u64.wrap (bits .and .u64 (y / 4) 3689348814741910323 + bits .and .u64 y 3689348814741910323)
def s3 (y : Int) : Int := bits .and .u64 (IntKind.u64.wrap (y / 16 + y)) 1085102592571150095
def s4 (y : Int) : Int := IntKind.u64.wrap (y + y / 256)
def s5 (y : Int) : Int := IntKind.u64.wrap (y + y / 65536)
def s6 (y : Int) : Int := IntKind.u64.wrap (y + y / 4294967296)
theorem ones_steps (x : Int) : bits_OnesCount64.f x = some (bits .and .i64 (wrap64 (s6 (s5 (s4 (s3 (s2 (s1 x))))))) 127) := rfl

theorem s1_is {x : Nat} (hx : x < 2 ^ 62) : s1 (x : Int) = ((t1 x 6148914691236517205 : Nat) : Int) := by
  have a1 : x / 2 &&& 6148914691236517205 ≤ x / 2 := Nat.and_le_left
  have a2 : x &&& 6148914691236517205 ≤ x := Nat.and_le_left
  have h1 := uand_nat (x / 2) 6148914691236517205 (by omega) (by decide)
  have h2 := uand_nat x 6148914691236517205 (by omega) (by decide)
  have h3 := uwrap_nat (t1 x 6148914691236517205) (by unfold t1; omega)
  unfold s1
  rw [show ((x / 2 : Nat) : Int) = (x : Int) / 2 from by omega, show ((6148914691236517205 : Nat) : Int) = 6148914691236517205 from rfl] at h1
  rw [show ((6148914691236517205 : Nat) : Int) = 6148914691236517205 from rfl] at h2
  rw [h1, h2, ← h3]
  congr 1

theorem s2_is {x : Nat} (hx : x < 2 ^ 62) : s2 (x : Int) = ((t2 x 3689348814741910323 : Nat) : Int) := by
  have a1 : x / 4 &&& 3689348814741910323 ≤ x / 4 := Nat.and_le_left
  have a2 : x &&& 3689348814741910323 ≤ x := Nat.and_le_left
  have h1 := uand_nat (x / 4) 3689348814741910323 (by omega) (by decide)
  have h2 := uand_nat x 3689348814741910323 (by omega) (by decide)
  have h3 := uwrap_nat (t2 x 3689348814741910323) (by unfold t2; omega)
  unfold s2
  rw [show ((x / 4 : Nat) : Int) = (x : Int) / 4 from by omega, show ((3689348814741910323 : Nat) : Int) = 3689348814741910323 from rfl] at h1
  rw [show ((3689348814741910323 : Nat) : Int) = 3689348814741910323 from rfl] at h2
  rw [h1, h2, ← h3]
  congr 1

theorem s3_is {x : Nat} (hx : x < 2 ^ 62) : s3 (x : Int) = ((t3 x 1085102592571150095 : Nat) : Int) := by
  have h3 := uwrap_nat (x / 16 + x) (by omega)
  have h1 := uand_nat (x / 16 + x) 1085102592571150095 (by omega) (by decide)
  unfold s3
  rw [show ((x / 16 + x : Nat) : Int) = (x : Int) / 16 + (x : Int) from by omega] at h1 h3
  rw [show ((1085102592571150095 : Nat) : Int) = 1085102592571150095 from rfl] at h1
  rw [h3, h1]
  rfl

theorem ones_is {x : Nat} (hx : x < 2 ^ 32) : bits_OnesCount64.f (x : Int) = some ((pc 32 x : Nat) : Int) := by
  obtain ⟨b3, b2, b1, b0, hx4, h0, h1, h2, h3⟩ : ∃ b3 b2 b1 b0, x = 256 * (256 * (256 * b3 + b2) + b1) + b0 ∧ b0 < 256 ∧ b1 < 256 ∧ b2 < 256 ∧ b3 < 256 :=
    ⟨x / 16777216, x / 65536 % 256, x / 256 % 256, x % 256, by omega, by omega, by omega, by omega, by omega⟩
  have q0 := g1_lt ⟨b0, h0⟩
  have q1 := g1_lt ⟨b1, h1⟩
  have q2 := g1_lt ⟨b2, h2⟩
  have q3 := g1_lt ⟨b3, h3⟩
  have r0 := g2_lt ⟨b0, h0⟩
  have r1 := g2_lt ⟨b1, h1⟩
  have r2 := g2_lt ⟨b2, h2⟩
  have r3 := g2_lt ⟨b3, h3⟩
  have u0 := g_is ⟨b0, h0⟩
  have u1 := g_is ⟨b1, h1⟩
  have u2 := g_is ⟨b2, h2⟩
  have u3 := g_is ⟨b3, h3⟩
  simp only [g] at q0 q1 q2 q3 r0 r1 r2 r3 u0 u1 u2 u3
  have z1 : ∀ m, t1 0 m = 0 := fun m => by simp [t1]
  have z2 : ∀ m, t2 0 m = 0 := fun m => by simp [t2]
  have z3 : ∀ m, t3 0 m = 0 := fun m => by simp [t3]
  have e1 : t1 x 6148914691236517205 = 256 * (256 * (256 * g1 b3 + g1 b2) + g1 b1) + g1 b0 := by
    have l3 := t1_step (a := 0) (b := b3) (m := 1431655765) h3
    rw [z1] at l3
    rw [hx4, show 6148914691236517205 = 256 * (256 * (256 * (256 * 1431655765 + 85) + 85) + 85) + 85 from rfl, t1_step h0, t1_step h1, t1_step h2]
    simp only [Nat.mul_zero, Nat.zero_add] at l3
    rw [l3]
  have e2 : t2 (256 * (256 * (256 * g1 b3 + g1 b2) + g1 b1) + g1 b0) 3689348814741910323 = 256 * (256 * (256 * g2 (g1 b3) + g2 (g1 b2)) + g2 (g1 b1)) + g2 (g1 b0) := by
    have l3 := t2_step (a := 0) (b := g1 b3) (m := 858993459) q3
    rw [z2] at l3
    rw [show 3689348814741910323 = 256 * (256 * (256 * (256 * 858993459 + 51) + 51) + 51) + 51 from rfl, t2_step q0, t2_step q1, t2_step q2]
    simp only [Nat.mul_zero, Nat.zero_add] at l3
    rw [l3]
  have e3 : t3 (256 * (256 * (256 * g2 (g1 b3) + g2 (g1 b2)) + g2 (g1 b1)) + g2 (g1 b0)) 1085102592571150095 = 256 * (256 * (256 * g3 (g2 (g1 b3)) + g3 (g2 (g1 b2))) + g3 (g2 (g1 b1))) + g3 (g2 (g1 b0)) := by
    have l3 := t3_step (a := 0) (b := g2 (g1 b3)) (m := 252645135) (by omega) (by omega)
    rw [z3] at l3
    rw [show 1085102592571150095 = 256 * (256 * (256 * (256 * 252645135 + 15) + 15) + 15) + 15 from rfl, t3_step (by omega) (by omega), t3_step (by omega) (by omega), t3_step (by omega) (by omega)]
    simp only [Nat.mul_zero, Nat.zero_add] at l3
    rw [l3]
  rw [ones_steps, s1_is (by omega), e1, s2_is (by omega), e2, s3_is (by omega), e3]
  rw [pc32 hx4 h0 h1 h2 h3, ← u0.1, ← u1.1, ← u2.1, ← u3.1]
  have v0 := u0.2
  have v1 := u1.2
  have v2 := u2.2
  have v3 := u3.2
  clear e1 e2 e3 z1 z2 z3 u0 u1 u2 u3 q0 q1 q2 q3 r0 r1 r2 r3 hx4
  generalize g3 (g2 (g1 b0)) = p0 at *
  generalize g3 (g2 (g1 b1)) = p1 at *
  generalize g3 (g2 (g1 b2)) = p2 at *
  generalize g3 (g2 (g1 b3)) = p3 at *
  obtain ⟨y, hy⟩ : ∃ y : Nat, y = 256 * (256 * (256 * p3 + p2) + p1) + p0 := ⟨_, rfl⟩
  rw [← hy]
  have f4 : s4 (y : Int) = ((y + y / 256 : Nat) : Int) := by
    have h := uwrap_nat (y + y / 256) (by omega)
    unfold s4
    rw [← h]
    congr 1
  rw [f4]
  obtain ⟨y4, hy4⟩ : ∃ y4 : Nat, y4 = y + y / 256 := ⟨_, rfl⟩
  rw [← hy4]
  have f5 : s5 (y4 : Int) = ((y4 + y4 / 65536 : Nat) : Int) := by
    have h := uwrap_nat (y4 + y4 / 65536) (by omega)
    unfold s5
    rw [← h]
    congr 1
  rw [f5]
  obtain ⟨y5, hy5⟩ : ∃ y5 : Nat, y5 = y4 + y4 / 65536 := ⟨_, rfl⟩
  rw [← hy5]
  have f6 : s6 (y5 : Int) = ((y5 : Nat) : Int) := by
    have h := uwrap_nat y5 (by omega)
    unfold s6
    rw [show (y5 : Int) + (y5 : Int) / 4294967296 = (y5 : Int) from by omega]
    exact h
  rw [f6, w64 (by omega) (by omega), and_int (by omega) (by omega) (by omega) (by omega), Int.toNat_natCast]
  have e7 : y5 &&& (127 : Int).toNat = y5 % 128 := by
    have := Nat.and_two_pow_sub_one_eq_mod y5 7
    exact this
  rw [e7]
  have k1 : y / 256 = 65536 * p3 + 256 * p2 + p1 := by omega
  have k2 : y4 / 65536 = 256 * p3 + p2 + p3 := by omega
  have k3 : y5 = 128 * (131072 * p3 + 512 * (p2 + p3) + 2 * (p1 + p2 + p3)) + (p0 + p1 + p2 + p3) := by omega
  have k4 : y5 % 128 = p0 + p1 + p2 + p3 := by
    rw [k3, Nat.mul_add_mod]
    exact Nat.mod_eq_of_lt (by omega)
  rw [k4]

theorem FnExactCountOnes : laws_FnExactCountOnes.Pure := by
  intro n w _ _
  refine ⟨40, ?_⟩
  unfold laws_FnExactCountOnes.f laws_toTable.f spec_CountOnes.f impl_CountOnes.f impl_ones.f
  simp only [Option.bind_some, spec_IsTable_is, impl_IsTable_is]
  cases h : isT n w
  · simp
  · obtain ⟨h0, h5, hw, hl⟩ := isT_yes h
    have hl2 := lim_le n
    obtain ⟨W, rfl⟩ := Int.eq_ofNat_of_zero_le hw
    have hc : spec_l2Count.f 40 (W : Int) = some ((0 + pc 32 W : Nat) : Int) := count_loop 32 W 40 0 (by omega) (by omega) (by omega) (by omega)
    rw [uwrap_nat W (by omega), ones_is (by omega), hc]
    simp

end Go.Proofs.Ytijpcemcijaeeaa.Pure
