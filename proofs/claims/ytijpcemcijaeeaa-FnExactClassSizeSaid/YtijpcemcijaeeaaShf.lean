/- What the reference's loop over a shifted table comes to, as one word. Conditions: the bounds that stand in each. -/
import Derived.Test.YtijpcemcijaeeaaRes0
import Derived.Test.YtijpcemcijaeeaaGms
import Derived.Test.YtijpcemcijaeeaaPy0
namespace Go.Proofs.Ytijpcemcijaeeaa.Tab
set_option linter.unusedVariables false
set_option linter.unusedSimpArgs false
open Go Go.RowKit Go.Proofs.Ytijpcemcijaeeaa.P Go.Proofs.Ytijpcemcijaeeaa.Bits Go.Proofs.YtijpcemcijaeeaaW.PrintWords Go.Proofs.YtijpcemcijaeeaaW.PrintLast Go.Proofs.YtijpcemcijaeeaaW.PrintMore

theorem xor_iff {j i s : Nat} : j = i ^^^ s ↔ j ^^^ s = i := by
  constructor
  · rintro rfl
    rw [Nat.xor_assoc, Nat.xor_self, Nat.xor_zero]
  · rintro rfl
    rw [Nat.xor_assoc, Nat.xor_self, Nat.xor_zero]

def shA (w s M i : Nat) : Nat := wordOf (fun j => decide (j ^^^ s < i) && w.testBit (j ^^^ s)) M
def shW (w s : Int) (n : Nat) : Nat := wordOf (fun x => w.toNat.testBit (x ^^^ s.toNat)) (2 ^ n)

theorem shA_step {w s n i : Nat} (hi : i < 2 ^ n) (hs : s < 2 ^ n) : shA w s (2 ^ n) i ||| (if w.testBit i then 2 ^ (i ^^^ s) else 0) = shA w s (2 ^ n) (i + 1) := by
  apply Nat.eq_of_testBit_eq
  intro j
  have hx := Nat.xor_lt_two_pow hi hs
  have e2 : (if w.testBit i then 2 ^ (i ^^^ s) else 0).testBit j = (decide (j ^^^ s = i) && w.testBit i) := by
    cases w.testBit i
    · simp
    · simp only [if_true, Nat.testBit_two_pow, Bool.and_true, decide_eq_decide]
      exact ⟨fun h => xor_iff.mp h.symm, fun h => (xor_iff.mpr h).symm⟩
  rw [Nat.testBit_or, e2, shA, shA, testBit_wordOf, testBit_wordOf, Bool.eq_iff_iff]
  simp only [Bool.or_eq_true, Bool.and_eq_true, decide_eq_true_eq]
  constructor
  · rintro (⟨a, b, c⟩ | ⟨b, c⟩)
    · exact ⟨a, by omega, c⟩
    · exact ⟨by rw [xor_iff.mpr b]; exact hx, by omega, by rw [b]; exact c⟩
  · rintro ⟨a, b, c⟩
    by_cases e : j ^^^ s = i
    · exact Or.inr ⟨e, by rw [← e]; exact c⟩
    · exact Or.inl ⟨a, by omega, c⟩

theorem shift_loop (n s : Nat) (w : Int) (hn : n ≤ 5) (hs : s < 2 ^ n) (w0 : 0 ≤ w) (w1 : w ≤ 4294967296) : ∀ (d j k : Nat), j + d = 2 ^ n → d < k →
    spec_l3Shift.l0 k (s : Int) ((shA w.toNat s (2 ^ n) j : Nat) : Int) (j : Int) (n : Int) w = some ((n : Int), ((shA w.toNat s (2 ^ n) (2 ^ n) : Nat) : Int)) := by
  have h32 := pow_le_32 hn
  intro d
  induction d with
  | zero =>
    intro j k hj hk
    obtain ⟨k, rfl⟩ : ∃ q, k = q + 1 := ⟨k - 1, by omega⟩
    obtain rfl : j = 2 ^ n := by omega
    simp only [spec_l3Shift.l0]
    rw [if_pos (by omega), shl_two_nat hn, if_neg (by omega)]
  | succ d ih =>
    intro j k hj hk
    obtain ⟨k, rfl⟩ : ∃ q, k = q + 1 := ⟨k - 1, by omega⟩
    have hx := Nat.xor_lt_two_pow (show j < 2 ^ n by omega) hs
    have o := or_bit (shA w.toNat s (2 ^ n) j) (j ^^^ s) (w.toNat.testBit j) (word63 _ (by omega)) (by omega)
    rw [shA_step (by omega) hs] at o
    simp only [spec_l3Shift.l0]
    rw [if_pos (by omega), shl_two_nat hn, if_pos (by omega), if_pos (by omega), xor_int (by omega) (by omega) (by omega) (by omega), if_pos (by omega), shr_is (by omega), bit_is w0 (by omega) (by omega) (by omega), Int.toNat_natCast, Int.toNat_natCast, o, w64 (by omega) (by omega)]
    exact ih (j + 1) k (by omega) (by omega)

theorem shift_spec {n w s : Int} (n0 : 0 ≤ n) (n5 : n ≤ 5) (w0 : 0 ≤ w) (w1 : w ≤ 4294967296) (s0 : 0 ≤ s) (s1 : s < two n) {k : Nat} (hk : 32 < k) :
    spec_l3Shift.f k n w s = some (n, ((shW w s n.toNat : Nat) : Int)) := by
  obtain ⟨N, rfl⟩ := Int.eq_ofNat_of_zero_le n0
  obtain ⟨S, rfl⟩ := Int.eq_ofNat_of_zero_le s0
  rw [two_nat (by omega)] at s1
  have h32 := pow_le_32 (show N ≤ 5 by omega)
  have h := shift_loop N S w (by omega) (by omega) w0 w1 (2 ^ N) 0 k (by omega) (by omega)
  have e0 : shA w.toNat S (2 ^ N) 0 = 0 := by
    apply Nat.eq_of_testBit_eq
    intro j
    rw [shA, testBit_wordOf]
    simp
  have e1 : shA w.toNat S (2 ^ N) (2 ^ N) = shW w (S : Int) ((N : Int)).toNat := by
    rw [shA, shW, Int.toNat_natCast, Int.toNat_natCast]
    apply wordOf_congr
    intro i hi
    rw [decide_eq_true (Nat.xor_lt_two_pow hi (show S < 2 ^ N by omega)), Bool.true_and]
  rw [e0, e1] at h
  exact h

theorem shift_impl {n w s : Int} (n0 : 0 ≤ n) (n5 : n ≤ 5) (w0 : 0 ≤ w) (w1 : w ≤ 4294967296) (s0 : 0 ≤ s) (s1 : s < two n) :
    impl_Table_shift.f n w s = some (n, ((shW w s n.toNat : Nat) : Int)) := by
  have := two_le n
  unfold impl_Table_shift.f shW
  rw [if_pos ⟨n0, n5, w0, w1, s0, by omega⟩]
end Go.Proofs.Ytijpcemcijaeeaa.Tab
