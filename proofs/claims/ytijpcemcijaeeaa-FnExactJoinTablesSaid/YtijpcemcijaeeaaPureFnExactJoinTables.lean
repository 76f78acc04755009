/- The law FnExactJoinTables: its plain function answers true for all its arguments. No conditions but those of the statement. -/
import Derived.Test.YtijpcemcijaeeaaRes
import Derived.Test.YtijpcemcijaeeaaPLFnExactJoinTables
import Derived.Test.YtijpcemcijaeeaaG1t
import Derived.Test.YtijpcemcijaeeaaPLFnExactJoinTables
import Derived.Test.YtijpcemcijaeeaaPa0
import Derived.Test.YtijpcemcijaeeaaPa1
import Derived.Test.YtijpcemcijaeeaaPa2
import Derived.Test.YtijpcemcijaeeaaPb0
import Derived.Test.YtijpcemcijaeeaaPb1
namespace Go.Proofs.Ytijpcemcijaeeaa.Pure
set_option linter.unusedVariables false
set_option linter.unusedSimpArgs false
open Go Go.RowKit Go.Proofs.Ytijpcemcijaeeaa.P Go.Proofs.Ytijpcemcijaeeaa.Bits Go.Proofs.Ytijpcemcijaeeaa.Tab Go.Proofs.YtijpcemcijaeeaaW.PrintWords Go.Proofs.YtijpcemcijaeeaaW.PrintLast Go.Proofs.YtijpcemcijaeeaaW.PrintMore

theorem spread31_all : ∀ (x : Fin 16) (i : Fin 5) (b : Fin 2), spreadN x.val i.val b.val < 32 := by decide +kernel
theorem spread31 {x i b : Nat} (hx : x < 16) (hi : i ≤ 4) (hb : b ≤ 1) : spreadN x i b < 32 := spread31_all ⟨x, hx⟩ ⟨i, by omega⟩ ⟨b, by omega⟩

theorem bit32 (b : Bool) {i : Nat} (hi : i < 32) : (if b then 2 ^ i else 0 : Nat) < 2 ^ 32 := by
  cases b
  · show (0 : Nat) < 2 ^ 32; decide
  · exact Nat.pow_lt_pow_right (by decide) hi

theorem join_loop (n i : Nat) (w u : Int) (hn : n ≤ 4) (hi : i ≤ 4) (w0 : 0 ≤ w) (w1 : w ≤ 4294967296) (u0 : 0 ≤ u) (u1 : u ≤ 4294967296) : ∀ (d j k A : Nat), j + d = 2 ^ n → d < k → A < 2 ^ 32 →
    ∃ r, spec_JoinTables.l0 k (i : Int) (A : Int) (j : Int) (n : Int) w (n : Int) u = some r ∧ impl_JoinTables.l0 k (i : Int) ((2 ^ n : Nat) : Int) (j : Int) (n : Int) w (n : Int) u ((n : Int) + 1) (A : Int) = some r := by
  have h16 : 2 ^ n ≤ 16 := by
    have := Nat.pow_le_pow_right (show 0 < 2 by decide) hn
    omega
  intro d
  induction d with
  | zero =>
    intro j k A hj hk hA
    obtain ⟨k, rfl⟩ : ∃ q, k = q + 1 := ⟨k - 1, by omega⟩
    obtain rfl : j = 2 ^ n := by omega
    simp only [spec_JoinTables.l0, impl_JoinTables.l0]
    rw [if_pos (by omega), shl_two_nat (by omega), if_neg (by omega), if_neg (by omega), w64 (by omega) (by omega)]
    exact ⟨_, rfl, rfl⟩
  | succ d ih =>
    intro j k A hj hk hA
    obtain ⟨k, rfl⟩ : ∃ q, k = q + 1 := ⟨k - 1, by omega⟩
    have s0 := spread31 (show j < 16 by omega) hi (show 0 ≤ 1 by omega)
    have s1 := spread31 (show j < 16 by omega) hi (show 1 ≤ 1 by omega)
    have i0 := insert_is (show j < 32 by omega) (show i ≤ 5 by omega) (show 0 ≤ 1 by omega)
    have i1 := insert_is (show j < 32 by omega) (show i ≤ 5 by omega) (show 1 ≤ 1 by omega)
    have p0 := spread_is j i 0 (by omega) (by omega) (by omega)
    have p1 := spread_is j i 1 (by omega) (by omega) (by omega)
    have b0 := bit32 (w.toNat.testBit j) s0
    have b1 := bit32 (u.toNat.testBit j) s1
    have q : (2 : Nat) ^ 32 ≤ 2 ^ 63 := by decide
    have o1 := or_bit A (spreadN j i 0) (w.toNat.testBit j) (by omega) (by omega)
    have hA1 := Nat.or_lt_two_pow hA b0
    have o2 := or_bit (A ||| (if w.toNat.testBit j then 2 ^ (spreadN j i 0) else 0)) (spreadN j i 1) (u.toNat.testBit j) (by omega) (by omega)
    have hA2 := Nat.or_lt_two_pow hA1 b1
    have hB := Nat.or_lt_two_pow b0 b1
    have o3 : bits .or .i64 (shl .i64 (((w.toNat.testBit j).toNat : Nat) : Int) ((spreadN j i 0 : Nat) : Int)) (shl .i64 (((u.toNat.testBit j).toNat : Nat) : Int) ((spreadN j i 1 : Nat) : Int)) = (((if w.toNat.testBit j then 2 ^ (spreadN j i 0) else 0) ||| (if u.toNat.testBit j then 2 ^ (spreadN j i 1) else 0) : Nat) : Int) := by
      rw [shl_bit _ (by omega), shl_bit _ (by omega)]
      exact or_nat _ _ (by omega) (by omega)
    have o4 := or_nat A ((if w.toNat.testBit j then 2 ^ (spreadN j i 0) else 0) ||| (if u.toNat.testBit j then 2 ^ (spreadN j i 1) else 0)) (by omega) (by omega)
    rw [← Nat.or_assoc] at o4
    simp only [spec_JoinTables.l0, impl_JoinTables.l0]
    rw [if_pos (by omega), shl_two_nat (by omega), if_pos (by omega), if_pos (by omega), if_pos (by omega)]
    rw [at_is w0 (by omega) (by omega) (by omega), at_is u0 (by omega) (by omega) (by omega)]
    simp only [Int.toNat_natCast]
    rw [show ((0 : Nat) : Int) = 0 from rfl] at i0 p0
    rw [show ((1 : Nat) : Int) = 1 from rfl] at i1 p1
    rw [i0, i1, p0, p1]
    simp only [Option.bind_some]
    rw [if_pos (by omega), if_pos (by omega), if_pos (by omega), if_pos (by omega), shr_is (by omega), shr_is (by omega), bit_is w0 (by omega) (by omega) (by omega), bit_is u0 (by omega) (by omega) (by omega), Int.toNat_natCast, o1, o2, o3, o4, w64 (by omega) (by omega)]
    exact ih (j + 1) k _ (by omega) (by omega) hA2

theorem FnExactJoinTables : laws_FnExactJoinTables.Pure := by
  intro n w m u i _ _ _ _ _
  refine ⟨40, ?_⟩
  obtain ⟨r, e1, e2⟩ : ∃ r, spec_JoinTables.f 40 n w m u i = some r ∧ impl_JoinTables.f 40 n w m u i = some r := by
    unfold spec_JoinTables.f impl_JoinTables.f spec_l2Fit.f impl_areTables.f
    simp only [Option.bind_some, spec_IsTable_is, impl_IsTable_is]
    cases h : isT n w
    · exact ⟨_, rfl, rfl⟩
    · cases g : isT m u
      · exact ⟨_, rfl, rfl⟩
      · obtain ⟨h0, h5, hw, hl⟩ := isT_yes h
        obtain ⟨g0, g5, gw, gl⟩ := isT_yes g
        have hl2 := lim_le n
        have gl2 := lim_le m
        simp only [if_true, Option.bind_some]
        by_cases hnm : n = m
        · subst hnm
          simp only [beq_self_eq_true, if_true]
          by_cases h5' : n = 5
          · rw [if_pos h5', if_pos (by omega)]
            exact ⟨_, rfl, rfl⟩
          · rw [if_neg h5', if_neg (by omega), l1In_is]
            simp only [Option.bind_some]
            by_cases hi : 0 ≤ i ∧ i ≤ n
            · rw [decide_eq_true hi, if_neg (by omega), decide_eq_false (show ¬ i > n by omega)]
              obtain ⟨N, rfl⟩ := Int.eq_ofNat_of_zero_le h0
              obtain ⟨I, rfl⟩ := Int.eq_ofNat_of_zero_le hi.1
              have h16 : 2 ^ N ≤ 16 := by
                have := Nat.pow_le_pow_right (show 0 < 2 by decide) (show N ≤ 4 by omega)
                omega
              obtain ⟨r, j1, j2⟩ := join_loop N I w u (by omega) (by omega) hw (by omega) gw (by omega) (2 ^ N) 0 39 0 (by omega) (by omega) (by decide)
              refine ⟨r, ?_, ?_⟩
              · simp only [Bool.not_true, spec_JoinTables.j0, Bool.false_eq_true, if_false]
                exact j1
              · simp only [impl_JoinTables.j0, Bool.false_eq_true, if_false]
                rw [size_is h0 h5, two_nat (by omega), w64 (by omega) (by omega)]
                exact j2
            · rw [decide_eq_false hi]
              by_cases hneg : i < 0
              · rw [if_pos hneg]
                exact ⟨_, rfl, rfl⟩
              · rw [if_neg hneg, decide_eq_true (show i > n by omega)]
                exact ⟨_, rfl, rfl⟩
        · rw [show (n == m) = false from beq_eq_false_iff_ne.mpr hnm]
          exact ⟨_, rfl, rfl⟩
  unfold laws_FnExactJoinTables.f laws_eqTable.f laws_toTable.f
  simp only [Option.bind_some, e1, e2]
  simp

end Go.Proofs.Ytijpcemcijaeeaa.Pure
