/- The least depth of a tree on a subcube, in whole numbers. Conditions: the bounds that stand in each. -/
import Derived.Test.YtekdidlaeljdjaaGcu

namespace Go.Proofs.Ytekdidlaeljdjaa.P
set_option linter.unusedVariables false
set_option linter.unusedSimpArgs false
open Go.RowKit

/-- One variable more: the least of what is known and of what asking it first costs. -/
def stepL (f : Nat → Nat → Nat) (m x b i : Nat) : Nat := if m.testBit i = true then b else min b (1 + max (f (m ||| 2 ^ i) x) (f (m ||| 2 ^ i) (x ||| 2 ^ i)))
def bestTo (f : Nat → Nat → Nat) (m x b : Nat) : Nat → Nat
  | 0 => b
  | k + 1 => stepL f m x (bestTo f m x b k) k
def leastD (n v : Nat) : Nat → Nat → Nat → Nat
  | 0, m, x => if cubeV v m x (2 ^ n) = 2 then n else 0
  | d + 1, m, x => if cubeV v m x (2 ^ n) = 2 then bestTo (leastD n v d) m x n n else 0
/-- How many variables are not yet asked. -/
def freeTo (m : Nat) : Nat → Nat
  | 0 => 0
  | k + 1 => freeTo m k + if m.testBit k = true then 0 else 1
def leastF (n v m x : Nat) : Nat := leastD n v (freeTo m n) m x

theorem free_step : ∀ n : Nat, n ≤ 4 → ∀ m, m < 2 ^ n → ∀ i, i < n → m.testBit i = false → freeTo (m ||| 2 ^ i) n + 1 = freeTo m n ∧ m ||| 2 ^ i < 2 ^ n := by decide +kernel
theorem free_none : ∀ n : Nat, n ≤ 4 → ∀ m, m < 2 ^ n → freeTo m n = 0 → m = 2 ^ n - 1 ∧ ∀ i, i < n → m.testBit i = true := by decide +kernel
theorem free_some : ∀ n : Nat, n ≤ 4 → ∀ m, m < 2 ^ n → 0 < freeTo m n → ∃ i, i < n ∧ m.testBit i = false := by decide +kernel
theorem free_le : ∀ n : Nat, n ≤ 4 → ∀ m, m < 2 ^ n → freeTo m n ≤ n := by decide +kernel

theorem bestTo_congr (f g : Nat → Nat → Nat) (m x b : Nat) : ∀ k, (∀ i, i < k → m.testBit i = false → ∀ y, f (m ||| 2 ^ i) y = g (m ||| 2 ^ i) y) → bestTo f m x b k = bestTo g m x b k
  | 0, _ => rfl
  | k + 1, h => by
    have ih := bestTo_congr f g m x b k fun i hi => h i (by omega)
    simp only [bestTo, stepL, ih]
    cases hb : m.testBit k
    · rw [if_neg (by decide), if_neg (by decide), h k (by omega) hb, h k (by omega) hb]
    · rw [if_pos rfl, if_pos rfl]
theorem bestTo_full (f : Nat → Nat → Nat) (m x b : Nat) : ∀ k, (∀ i, i < k → m.testBit i = true) → bestTo f m x b k = b
  | 0, _ => rfl
  | k + 1, h => by
    simp only [bestTo, stepL]
    rw [if_pos (h k (by omega))]
    exact bestTo_full f m x b k fun i hi => h i (by omega)
theorem bestTo_le (f : Nat → Nat → Nat) (m x b : Nat) : ∀ k, bestTo f m x b k ≤ b ∧ ∀ i, i < k → m.testBit i = false → bestTo f m x b k ≤ 1 + max (f (m ||| 2 ^ i) x) (f (m ||| 2 ^ i) (x ||| 2 ^ i))
  | 0 => ⟨Nat.le_refl _, fun i hi => absurd hi (Nat.not_lt_zero _)⟩
  | k + 1 => by
    obtain ⟨h1, h2⟩ := bestTo_le f m x b k
    have h3 : bestTo f m x b (k + 1) ≤ bestTo f m x b k := by
      simp only [bestTo, stepL]
      split <;> omega
    refine ⟨Nat.le_trans h3 h1, fun i hi hb => ?_⟩
    by_cases hk : i = k
    · subst hk
      simp only [bestTo, stepL]
      rw [if_neg (by rw [hb]; decide)]
      omega
    · exact Nat.le_trans h3 (h2 i (by omega) hb)
theorem bestTo_ten (f : Nat → Nat → Nat) (m x b : Nat) (hb : b ≤ 10) : ∀ k, bestTo f m x b k = min b (bestTo f m x 10 k)
  | 0 => by simp only [bestTo]; omega
  | k + 1 => by
    have ih := bestTo_ten f m x b hb k
    simp only [bestTo, stepL, ih]
    split <;> omega

theorem leastF_eq (n v m x : Nat) (hn : n ≤ 4) (hm : m < 2 ^ n) : leastF n v m x = if cubeV v m x (2 ^ n) = 2 then bestTo (leastF n v) m x n n else 0 := by
  unfold leastF
  cases hd : freeTo m n with
  | zero =>
    simp only [leastD]
    rw [bestTo_full _ m x n n (free_none n hn m hm hd).2]
  | succ d =>
    simp only [leastD]
    rw [bestTo_congr (leastD n v d) (fun m x => leastD n v (freeTo m n) m x) m x n n]
    intro i hi hb y
    have := (free_step n hn m hm i hi hb).1
    show leastD n v d _ _ = leastD n v (freeTo (m ||| 2 ^ i) n) _ _
    rw [show freeTo (m ||| 2 ^ i) n = d by omega]

theorem seen_at (w m v : Nat) (b : Bool) : ∀ k, seenB w m v b k = true → ∃ j, j < k ∧ j &&& m = v ∧ w.testBit j = b
  | 0, h => by simp [seenB] at h
  | k + 1, h => by
    simp only [seenB, Bool.or_eq_true, Bool.and_eq_true, decide_eq_true_eq, beq_iff_eq] at h
    rcases h with h | ⟨h1, h2⟩
    · obtain ⟨j, h1, h2⟩ := seen_at w m v b k h
      exact ⟨j, by omega, h2⟩
    · exact ⟨k, by omega, h1, h2⟩
theorem cube_two (w m v M : Nat) (h : cubeV w m v M = 2) : seenB w m v false M = true ∧ seenB w m v true M = true := by
  unfold cubeV at h
  revert h
  cases seenB w m v false M <;> cases seenB w m v true M <;> simp
theorem cube_free (n v m x : Nat) (hn : n ≤ 4) (hm : m < 2 ^ n) (h : cubeV v m x (2 ^ n) = 2) : 0 < freeTo m n := by
  rcases Nat.eq_zero_or_pos (freeTo m n) with q | q
  · obtain ⟨e, -⟩ := free_none n hn m hm q
    obtain ⟨h1, h2⟩ := cube_two _ _ _ _ h
    obtain ⟨i, i1, i2, i3⟩ := seen_at _ _ _ _ _ h1
    obtain ⟨j, j1, j2, j3⟩ := seen_at _ _ _ _ _ h2
    rw [e, Nat.and_two_pow_sub_one_of_lt_two_pow i1] at i2
    rw [e, Nat.and_two_pow_sub_one_of_lt_two_pow j1] at j2
    rw [i2.trans j2.symm, j3] at i3
    cases i3
  · exact q

theorem leastF_le (n v : Nat) (hn : n ≤ 4) : ∀ d m x, m < 2 ^ n → freeTo m n = d → leastF n v m x ≤ d := by
  intro d
  induction d with
  | zero =>
    intro m x hm hd
    rw [leastF_eq n v m x hn hm]
    split
    · rename_i h
      have := cube_free n v m x hn hm h
      omega
    · omega
  | succ d ih =>
    intro m x hm hd
    rw [leastF_eq n v m x hn hm]
    split
    · obtain ⟨i, hi, hb⟩ := free_some n hn m hm (by omega)
      have h1 := (bestTo_le (leastF n v) m x n n).2 i hi hb
      obtain ⟨h2, h3⟩ := free_step n hn m hm i hi hb
      have h4 := ih (m ||| 2 ^ i) x h3 (by omega)
      have h5 := ih (m ||| 2 ^ i) (x ||| 2 ^ i) h3 (by omega)
      omega
    · omega
/-- The reference begins at ten. -/
theorem leastF_ten (n v m x : Nat) (hn : n ≤ 4) (hm : m < 2 ^ n) : leastF n v m x = if cubeV v m x (2 ^ n) = 2 then bestTo (leastF n v) m x 10 n else 0 := by
  rw [leastF_eq n v m x hn hm]
  split
  · rename_i h
    rw [bestTo_ten (leastF n v) m x n (by omega) n]
    obtain ⟨i, hi, hb⟩ := free_some n hn m hm (cube_free n v m x hn hm h)
    have h1 := (bestTo_le (leastF n v) m x 10 n).2 i hi hb
    obtain ⟨h2, h3⟩ := free_step n hn m hm i hi hb
    have h4 := leastF_le n v hn _ (m ||| 2 ^ i) x h3 rfl
    have h5 := leastF_le n v hn _ (m ||| 2 ^ i) (x ||| 2 ^ i) h3 rfl
    have h6 := free_le n hn m hm
    omega
  · rfl
end Go.Proofs.Ytekdidlaeljdjaa.P
