/- Implicants: what the reference's word of a term and the program's cube come to. Conditions: the bounds that stand in each. -/
import Derived.Test.YtgkmgiojbiikgaaTrm
import Derived.Test.YtgkmgiojbiikgaaShl
import Derived.Test.YtgkmgiojbiikgaaGcu
import Derived.Test.YtgkmgiojbiikgaaGcu
import Derived.Test.YtgkmgiojbiikgaaPv7
import Derived.Test.YtgkmgiojbiikgaaPz3
namespace Go.Proofs.Ytgkmgiojbiikgaa.Imp
set_option linter.unusedVariables false
set_option linter.unusedSimpArgs false
open Go Go.RowKit Go.Proofs.Ytgkmgiojbiikgaa.P Go.Proofs.Ytgkmgiojbiikgaa.Bits Go.Proofs.Ytgkmgiojbiikgaa.Tab Go.Proofs.Ytgkmgiojbiikgaa.Shl Go.Proofs.YtgkmgiojbiikgaaW.PrintWords Go.Proofs.YtgkmgiojbiikgaaW.PrintLast Go.Proofs.YtgkmgiojbiikgaaW.PrintMore

theorem seen_iff (w m v : Nat) (b : Bool) : ∀ k, seenB w m v b k = true ↔ ∃ i, i < k ∧ i &&& m = v ∧ w.testBit i = b := by
  intro k
  induction k with
  | zero => simp [seenB]
  | succ k ih =>
    rw [seenB, Bool.or_eq_true, ih, Bool.and_eq_true, decide_eq_true_eq, beq_iff_eq]
    constructor
    · rintro (⟨i, h1, h2, h3⟩ | ⟨h2, h3⟩)
      · exact ⟨i, by omega, h2, h3⟩
      · exact ⟨k, by omega, h2, h3⟩
    · rintro ⟨i, h1, h2, h3⟩
      by_cases e : i = k
      · subst e; exact Or.inr ⟨h2, h3⟩
      · exact Or.inl ⟨i, by omega, h2, h3⟩

def wt (m v M : Nat) : Nat := wordOf (fun x => decide (x &&& m = v)) M
def impB (n w m v : Int) : Bool := !seenB w.toNat m.toNat v.toNat false (2 ^ n.toNat)

theorem word_loop (n m v : Nat) (hn : n ≤ 5) (hm : m < 32) (hv : v < 32) : ∀ (d j k : Nat), j + d = 2 ^ n → d < k →
    spec_l6Word.l0 k (n : Int) ((wt m v j : Nat) : Int) (j : Int) (m : Int) (v : Int) = some ((wt m v (2 ^ n) : Nat) : Int) := by
  have h32 := pow_le_32 hn
  intro d
  induction d with
  | zero =>
    intro j k hj hk
    obtain ⟨k, rfl⟩ : ∃ q, k = q + 1 := ⟨k - 1, by omega⟩
    obtain rfl : j = 2 ^ n := by omega
    simp only [spec_l6Word.l0]
    rw [if_pos (by omega), shl_two_nat hn, if_neg (by omega)]
  | succ d ih =>
    intro j k hj hk
    obtain ⟨k, rfl⟩ : ∃ q, k = q + 1 := ⟨k - 1, by omega⟩
    simp only [spec_l6Word.l0]
    rw [if_pos (by omega), shl_two_nat hn, if_pos (by omega), and_int (by omega) (by omega) (by omega) (by omega), Int.toNat_natCast, Int.toNat_natCast, w64 (by omega) (by omega)]
    have ih' := ih (j + 1) k (by omega) (by omega)
    rw [show ((j + 1 : Nat) : Int) = (j : Int) + 1 from by omega] at ih'
    have o := Shl.or_pow (i := j) (word63 (fun x => decide (x &&& m = v)) (m := j) (by omega)) (by omega)
    unfold wt at ih' ⊢
    by_cases hc : j &&& m = v
    · rw [if_pos (by omega), if_pos (by omega), o]
      simp only [wordOf, decide_eq_true hc, if_true] at ih'
      exact ih'
    · rw [if_neg (by omega)]
      simp only [wordOf, decide_eq_false hc, Bool.false_eq_true, if_false, Nat.or_zero] at ih'
      exact ih'

theorem implies_spec {n w m v : Int} (n0 : 0 ≤ n) (n5 : n ≤ 5) (w0 : 0 ≤ w) (w1 : w ≤ 4294967296) (m0 : 0 ≤ m) (m1 : m < 32) (v0 : 0 ≤ v) (v1 : v < 32) {k : Nat} (hk : 32 < k) :
    spec_l6Implies.f k n w m v = some (impB n w m v) := by
  obtain ⟨N, rfl⟩ := Int.eq_ofNat_of_zero_le n0
  obtain ⟨W, rfl⟩ := Int.eq_ofNat_of_zero_le w0
  obtain ⟨M, rfl⟩ := Int.eq_ofNat_of_zero_le m0
  obtain ⟨V, rfl⟩ := Int.eq_ofNat_of_zero_le v0
  have h32 := pow_le_32 (show N ≤ 5 by omega)
  have h : spec_l6Word.f k (N : Int) (M : Int) (V : Int) = some ((wt M V (2 ^ N) : Nat) : Int) := word_loop N M V (by omega) (by omega) (by omega) (2 ^ N) 0 k (by omega) (by omega)
  have hw : wt M V (2 ^ N) < 2 ^ 63 := word63 _ (by omega)
  have hp : (2 : Nat) ^ 63 = 9223372036854775808 := p63
  unfold spec_l6Implies.f impB
  rw [h]
  simp only [Option.bind_some]
  rw [and_int (by omega) (by omega) (by omega) (by omega)]
  simp only [Int.toNat_natCast]
  congr 1
  rw [Bool.eq_iff_iff, Bool.not_eq_true', ← Bool.not_eq_true, seen_iff, beq_iff_eq]
  constructor
  · intro q
    have q' : wt M V (2 ^ N) &&& W = wt M V (2 ^ N) := by omega
    rintro ⟨i, h1, h2, h3⟩
    have t : (wt M V (2 ^ N)).testBit i = true := by
      unfold wt
      rw [testBit_wordOf, decide_eq_true h1, decide_eq_true h2]
      rfl
    have t2 : (wt M V (2 ^ N) &&& W).testBit i = true := by rw [q']; exact t
    rw [Nat.testBit_and, h3, Bool.and_false] at t2
    exact absurd t2 (by decide)
  · intro q
    have q' : wt M V (2 ^ N) &&& W = wt M V (2 ^ N) := by
      apply Nat.eq_of_testBit_eq
      intro i
      rw [Nat.testBit_and]
      cases t : (wt M V (2 ^ N)).testBit i
      · rfl
      · unfold wt at t
        rw [testBit_wordOf, Bool.and_eq_true, decide_eq_true_eq, decide_eq_true_eq] at t
        cases b : W.testBit i
        · exact absurd ⟨i, t.1, t.2, b⟩ q
        · rfl
    omega

theorem implies_impl {n w m v : Int} (n0 : 0 ≤ n) (n5 : n ≤ 5) (w0 : 0 ≤ w) (w1 : w ≤ 4294967296) (m0 : 0 ≤ m) (m1 : m < two n) (v0 : 0 ≤ v) (hs : v.toNat &&& m.toNat = v.toNat) :
    impl_Table_isImplicant.f n w m v = some (impB n w m v) := by
  obtain ⟨N, rfl⟩ := Int.eq_ofNat_of_zero_le n0
  obtain ⟨W, rfl⟩ := Int.eq_ofNat_of_zero_le w0
  obtain ⟨M, rfl⟩ := Int.eq_ofNat_of_zero_le m0
  obtain ⟨V, rfl⟩ := Int.eq_ofNat_of_zero_le v0
  simp only [Int.toNat_natCast] at hs
  have hle : V &&& M ≤ M := Nat.and_le_right
  rw [hs] at hle
  have h32 := pow_le_32 (show N ≤ 5 by omega)
  rw [two_nat (show N ≤ 5 by omega)] at m1
  unfold impl_Table_isImplicant.f impl_Table_cube.f impB
  rw [if_pos ⟨n0, n5, w0, w1, m0, by omega, v0, by omega⟩]
  simp only [Option.bind_some, Int.toNat_natCast]
  congr 1
  have hsome : seenB W M V true (2 ^ N) = true ∨ seenB W M V false (2 ^ N) = true := by
    cases b : W.testBit V
    · exact Or.inr ((seen_iff _ _ _ _ _).mpr ⟨V, by omega, hs, b⟩)
    · exact Or.inl ((seen_iff _ _ _ _ _).mpr ⟨V, by omega, hs, b⟩)
  revert hsome
  unfold cubeV
  cases seenB W M V true (2 ^ N) <;> cases seenB W M V false (2 ^ N) <;> simp
end Go.Proofs.Ytgkmgiojbiikgaa.Imp
