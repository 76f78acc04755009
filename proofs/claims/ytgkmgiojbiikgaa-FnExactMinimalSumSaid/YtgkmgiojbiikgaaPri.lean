/- Implicants and primes: what the reference's word of a term and the program's cube come to; their tests of one term answer the same. Conditions: the bounds that stand in each. -/
import Derived.Test.YtgkmgiojbiikgaaTrm
import Derived.Test.YtgkmgiojbiikgaaShl
import Derived.Test.YtgkmgiojbiikgaaGcu
import Derived.Test.YtgkmgiojbiikgaaGcu
import Derived.Test.YtgkmgiojbiikgaaPv4
import Derived.Test.YtgkmgiojbiikgaaPv7
import Derived.Test.YtgkmgiojbiikgaaPz3
namespace Go.Proofs.Ytgkmgiojbiikgaa.Imp
set_option linter.unusedVariables false
set_option linter.unusedSimpArgs false
open Go Go.RowKit Go.Proofs.Ytgkmgiojbiikgaa.P Go.Proofs.Ytgkmgiojbiikgaa.Bits Go.Proofs.Ytgkmgiojbiikgaa.Tab Go.Proofs.Ytgkmgiojbiikgaa.Shl Go.Proofs.YtgkmgiojbiikgaaW.PrintWords Go.Proofs.YtgkmgiojbiikgaaW.PrintLast Go.Proofs.YtgkmgiojbiikgaaW.PrintMore

theorem seen_iff (w m v : Nat) (b : Bool) : ∀ k, seenB w m v b k = true ↔ ∃ i, i < k ∧ i &&& m = v ∧ w.testBit i = b := by
  intro k
  induction k with
  | zero => simp [seenB]
  | succ k ih =>
    rw [seenB, Bool.or_eq_true, ih, Bool.and_eq_true, decide_eq_true_eq, beq_iff_eq]
    constructor
    · rintro (⟨i, h1, h2, h3⟩ | ⟨h2, h3⟩)
      · exact ⟨i, by omega, h2, h3⟩
      · exact ⟨k, by omega, h2, h3⟩
    · rintro ⟨i, h1, h2, h3⟩
      by_cases e : i = k
      · subst e; exact Or.inr ⟨h2, h3⟩
      · exact Or.inl ⟨i, by omega, h2, h3⟩

def wt (m v M : Nat) : Nat := wordOf (fun x => decide (x &&& m = v)) M
def impB (n w m v : Int) : Bool := !seenB w.toNat m.toNat v.toNat false (2 ^ n.toNat)

theorem word_loop (n m v : Nat) (hn : n ≤ 5) (hm : m < 32) (hv : v < 32) : ∀ (d j k : Nat), j + d = 2 ^ n → d < k →
    spec_l6Word.l0 k (n : Int) ((wt m v j : Nat) : Int) (j : Int) (m : Int) (v : Int) = some ((wt m v (2 ^ n) : Nat) : Int) := by
  have h32 := pow_le_32 hn
  intro d
  induction d with
  | zero =>
    intro j k hj hk
    obtain ⟨k, rfl⟩ : ∃ q, k = q + 1 := ⟨k - 1, by omega⟩
    obtain rfl : j = 2 ^ n := by omega
    simp only [spec_l6Word.l0]
    rw [if_pos (by omega), shl_two_nat hn, if_neg (by omega)]
  | succ d ih =>
    intro j k hj hk
    obtain ⟨k, rfl⟩ : ∃ q, k = q + 1 := ⟨k - 1, by omega⟩
    simp only [spec_l6Word.l0]
    rw [if_pos (by omega), shl_two_nat hn, if_pos (by omega), and_int (by omega) (by omega) (by omega) (by omega), Int.toNat_natCast, Int.toNat_natCast, w64 (by omega) (by omega)]
    have ih' := ih (j + 1) k (by omega) (by omega)
    rw [show ((j + 1 : Nat) : Int) = (j : Int) + 1 from by omega] at ih'
    have o := Shl.or_pow (i := j) (word63 (fun x => decide (x &&& m = v)) (m := j) (by omega)) (by omega)
    unfold wt at ih' ⊢
    by_cases hc : j &&& m = v
    · rw [if_pos (by omega), if_pos (by omega), o]
      simp only [wordOf, decide_eq_true hc, if_true] at ih'
      exact ih'
    · rw [if_neg (by omega)]
      simp only [wordOf, decide_eq_false hc, Bool.false_eq_true, if_false, Nat.or_zero] at ih'
      exact ih'

theorem implies_spec {n w m v : Int} (n0 : 0 ≤ n) (n5 : n ≤ 5) (w0 : 0 ≤ w) (w1 : w ≤ 4294967296) (m0 : 0 ≤ m) (m1 : m < 32) (v0 : 0 ≤ v) (v1 : v < 32) {k : Nat} (hk : 32 < k) :
    spec_l6Implies.f k n w m v = some (impB n w m v) := by
  obtain ⟨N, rfl⟩ := Int.eq_ofNat_of_zero_le n0
  obtain ⟨W, rfl⟩ := Int.eq_ofNat_of_zero_le w0
  obtain ⟨M, rfl⟩ := Int.eq_ofNat_of_zero_le m0
  obtain ⟨V, rfl⟩ := Int.eq_ofNat_of_zero_le v0
  have h32 := pow_le_32 (show N ≤ 5 by omega)
  have h : spec_l6Word.f k (N : Int) (M : Int) (V : Int) = some ((wt M V (2 ^ N) : Nat) : Int) := word_loop N M V (by omega) (by omega) (by omega) (2 ^ N) 0 k (by omega) (by omega)
  have hw : wt M V (2 ^ N) < 2 ^ 63 := word63 _ (by omega)
  have hp : (2 : Nat) ^ 63 = 9223372036854775808 := p63
  unfold spec_l6Implies.f impB
  rw [h]
  simp only [Option.bind_some]
  rw [and_int (by omega) (by omega) (by omega) (by omega)]
  simp only [Int.toNat_natCast]
  congr 1
  rw [Bool.eq_iff_iff, Bool.not_eq_true', ← Bool.not_eq_true, seen_iff, beq_iff_eq]
  constructor
  · intro q
    have q' : wt M V (2 ^ N) &&& W = wt M V (2 ^ N) := by omega
    rintro ⟨i, h1, h2, h3⟩
    have t : (wt M V (2 ^ N)).testBit i = true := by
      unfold wt
      rw [testBit_wordOf, decide_eq_true h1, decide_eq_true h2]
      rfl
    have t2 : (wt M V (2 ^ N) &&& W).testBit i = true := by rw [q']; exact t
    rw [Nat.testBit_and, h3, Bool.and_false] at t2
    exact absurd t2 (by decide)
  · intro q
    have q' : wt M V (2 ^ N) &&& W = wt M V (2 ^ N) := by
      apply Nat.eq_of_testBit_eq
      intro i
      rw [Nat.testBit_and]
      cases t : (wt M V (2 ^ N)).testBit i
      · rfl
      · unfold wt at t
        rw [testBit_wordOf, Bool.and_eq_true, decide_eq_true_eq, decide_eq_true_eq] at t
        cases b : W.testBit i
        · exact absurd ⟨i, t.1, t.2, b⟩ q
        · rfl
    omega

theorem implies_impl {n w m v : Int} (n0 : 0 ≤ n) (n5 : n ≤ 5) (w0 : 0 ≤ w) (w1 : w ≤ 4294967296) (m0 : 0 ≤ m) (m1 : m < two n) (v0 : 0 ≤ v) (hs : v.toNat &&& m.toNat = v.toNat) :
    impl_Table_isImplicant.f n w m v = some (impB n w m v) := by
  obtain ⟨N, rfl⟩ := Int.eq_ofNat_of_zero_le n0
  obtain ⟨W, rfl⟩ := Int.eq_ofNat_of_zero_le w0
  obtain ⟨M, rfl⟩ := Int.eq_ofNat_of_zero_le m0
  obtain ⟨V, rfl⟩ := Int.eq_ofNat_of_zero_le v0
  simp only [Int.toNat_natCast] at hs
  have hle : V &&& M ≤ M := Nat.and_le_right
  rw [hs] at hle
  have h32 := pow_le_32 (show N ≤ 5 by omega)
  rw [two_nat (show N ≤ 5 by omega)] at m1
  unfold impl_Table_isImplicant.f impl_Table_cube.f impB
  rw [if_pos ⟨n0, n5, w0, w1, m0, by omega, v0, by omega⟩]
  simp only [Option.bind_some, Int.toNat_natCast]
  congr 1
  have hsome : seenB W M V true (2 ^ N) = true ∨ seenB W M V false (2 ^ N) = true := by
    cases b : W.testBit V
    · exact Or.inr ((seen_iff _ _ _ _ _).mpr ⟨V, by omega, hs, b⟩)
    · exact Or.inl ((seen_iff _ _ _ _ _).mpr ⟨V, by omega, hs, b⟩)
  revert hsome
  unfold cubeV
  cases seenB W M V true (2 ^ N) <;> cases seenB W M V false (2 ^ N) <;> simp
end Go.Proofs.Ytgkmgiojbiikgaa.Imp
namespace Go.Proofs.Ytgkmgiojbiikgaa.Pri
set_option linter.unusedVariables false
set_option linter.unusedSimpArgs false
open Go Go.RowKit Go.Proofs.Ytgkmgiojbiikgaa.P Go.Proofs.Ytgkmgiojbiikgaa.Bits Go.Proofs.Ytgkmgiojbiikgaa.Tab Go.Proofs.Ytgkmgiojbiikgaa.Shl Go.Proofs.Ytgkmgiojbiikgaa.Imp Go.Proofs.YtgkmgiojbiikgaaW.PrintWords Go.Proofs.YtgkmgiojbiikgaaW.PrintLast Go.Proofs.YtgkmgiojbiikgaaW.PrintMore

theorem drop_all : ∀ (m : Fin 32) (i : Fin 5), m.val &&& 2 ^ i.val = 0 ∨ (m.val &&& 2 ^ i.val = 2 ^ i.val ∧ 2 ^ i.val ≤ m.val ∧ m.val ^^^ (m.val &&& 2 ^ i.val) = m.val - 2 ^ i.val) := by decide +kernel
theorem drop_val : ∀ (v : Fin 32) (i : Fin 5), v.val &&& 2 ^ i.val ≤ v.val ∧ v.val ^^^ (v.val &&& 2 ^ i.val) = v.val - (v.val &&& 2 ^ i.val) := by decide +kernel

theorem drop_sub {v m p : Nat} (h : v &&& m = v) : (v ^^^ (v &&& p)) &&& (m ^^^ (m &&& p)) = v ^^^ (v &&& p) := by
  apply Nat.eq_of_testBit_eq
  intro i
  have hb : (v &&& m).testBit i = v.testBit i := by rw [h]
  rw [Nat.testBit_and] at hb
  simp only [Nat.testBit_and, Nat.testBit_xor]
  revert hb
  cases v.testBit i <;> cases m.testBit i <;> cases p.testBit i <;> simp

theorem prime_loop (n m v : Nat) (w : Int) (hn : n ≤ 5) (hm : m < 2 ^ n) (hs : v &&& m = v) (w0 : 0 ≤ w) (w1 : w ≤ 4294967296) : ∀ (d i k : Nat), i + d = n → d + 33 < k →
    ∃ r, spec_l6Prime.l0 k (i : Int) (n : Int) w (m : Int) (v : Int) = some r ∧ impl_Table_isPrime.l0 k (n : Int) (i : Int) (n : Int) w (m : Int) (v : Int) = some r := by
  have h32 := pow_le_32 hn
  have hle : v &&& m ≤ m := Nat.and_le_right
  rw [hs] at hle
  intro d
  induction d with
  | zero =>
    intro i k hi hk
    obtain ⟨k, rfl⟩ : ∃ q, k = q + 1 := ⟨k - 1, by omega⟩
    simp only [spec_l6Prime.l0, impl_Table_isPrime.l0]
    rw [if_neg (show ¬ (i : Int) < (n : Int) by omega), if_neg (show ¬ (i : Int) < (n : Int) by omega)]
    exact ⟨_, rfl, rfl⟩
  | succ d ih =>
    intro i k hi hk
    obtain ⟨k, rfl⟩ : ∃ q, k = q + 1 := ⟨k - 1, by omega⟩
    have hp : 2 ^ i ≤ 2 ^ 4 := Nat.pow_le_pow_right (by decide) (by omega)
    have d1 := drop_all ⟨m, by omega⟩ ⟨i, by omega⟩
    have d2 := drop_val ⟨v, by omega⟩ ⟨i, by omega⟩
    simp only at d1 d2
    have hpos := Nat.two_pow_pos i
    have es := shl_one_nat (show i ≤ 62 by omega)
    obtain ⟨p, ep⟩ : ∃ p, p = 2 ^ i := ⟨_, rfl⟩
    rw [← ep] at hp d1 d2 hpos es
    simp only [spec_l6Prime.l0, impl_Table_isPrime.l0]
    rw [if_pos (show (i : Int) < (n : Int) by omega), if_pos (show (i : Int) < (n : Int) by omega), if_pos (show 0 ≤ (i : Int) by omega), if_pos (show 0 ≤ (i : Int) by omega), es, and_int (a := (m : Int)) (by omega) (by omega) (by omega) (by omega), w64 (x := (i : Int) + 1) (by omega) (by omega)]
    simp only [Int.toNat_natCast]
    obtain ⟨r, r1, r2⟩ := ih (i + 1) k (by omega) (by omega)
    rw [show ((i + 1 : Nat) : Int) = (i : Int) + 1 from by omega] at r1 r2
    rcases d1 with d1 | ⟨d1, d3, d4⟩
    · rw [if_pos (by omega), if_pos (by omega)]
      exact ⟨r, r1, r2⟩
    · rw [if_neg (by omega), if_neg (by omega), and_int (a := (v : Int)) (by omega) (by omega) (by omega) (by omega), andNot_int (a := (m : Int)) (by omega) (by omega) (by omega) (by omega), andNot_int (a := (v : Int)) (by omega) (by omega) (by omega) (by omega)]
      simp only [Int.toNat_natCast]
      have hdm := drop_sub (p := p) hs
      rw [w64 (by omega) (by omega), w64 (by omega) (by omega)]
      have e1 : (m : Int) - (p : Int) = ((m ^^^ (m &&& p) : Nat) : Int) := by omega
      have e2 : (v : Int) - ((v &&& p : Nat) : Int) = ((v ^^^ (v &&& p) : Nat) : Int) := by omega
      rw [e1, e2]
      have t := two_nat hn
      rw [implies_spec (by omega) (by omega) w0 w1 (by omega) (by omega) (by omega) (by omega) (by omega), implies_impl (by omega) (by omega) w0 w1 (by omega) (by omega) (by omega) (by rw [Int.toNat_natCast, Int.toNat_natCast]; exact hdm)]
      simp only [Option.bind_some]
      split
      · exact ⟨_, rfl, rfl⟩
      · exact ⟨r, r1, r2⟩

theorem prime_same (n m v : Nat) (w : Int) (hn : n ≤ 5) (hm : m < 2 ^ n) (hs : v &&& m = v) (w0 : 0 ≤ w) (w1 : w ≤ 4294967296) {k : Nat} (hk : 40 ≤ k) :
    ∃ r, spec_l6Prime.f k (n : Int) w (m : Int) (v : Int) = some r ∧ impl_Table_isPrime.f k (n : Int) w (m : Int) (v : Int) = some r := by
  have h32 := pow_le_32 hn
  have t := two_nat hn
  have hle : v &&& m ≤ m := Nat.and_le_right
  rw [hs] at hle
  obtain ⟨r, r1, r2⟩ := prime_loop n m v w hn hm hs w0 w1 n 0 k (by omega) (by omega)
  have r1' : spec_l6Prime.l0 k 0 (n : Int) w (m : Int) (v : Int) = some r := r1
  have r2' : impl_Table_isPrime.l0 k (n : Int) 0 (n : Int) w (m : Int) (v : Int) = some r := r2
  unfold spec_l6Prime.f impl_Table_isPrime.f
  rw [implies_spec (by omega) (by omega) w0 w1 (by omega) (by omega) (by omega) (by omega) (by omega), implies_impl (by omega) (by omega) w0 w1 (by omega) (by omega) (by omega) (by rw [Int.toNat_natCast, Int.toNat_natCast]; exact hs)]
  simp only [Option.bind_some]
  split
  · exact ⟨r, r1', r2'⟩
  · exact ⟨_, rfl, rfl⟩

theorem primes_inner (n m d : Nat) (w : Int) (hn : n ≤ 5) (hm : m < 2 ^ n) (w0 : 0 ≤ w) (w1 : w ≤ 4294967296)
    (H : ∀ (k : Nat) (xs : List S28), xs.length ≤ 33 * (m + 1) → 34 * d + 60 ≤ k → ∃ r, r.length ≤ 1100 ∧ spec_l6Primes.l0 k xs ((m : Int) + 1) (n : Int) w = some r ∧ impl_Table_primes.l0 k xs ((2 ^ n : Nat) : Int) ((m : Int) + 1) (n : Int) w = some r) :
    ∀ (e v k : Nat) (xs : List S28), v + e = m + 1 → xs.length ≤ 33 * m + v → 34 * d + 61 + e ≤ k → ∃ r, r.length ≤ 1100 ∧ spec_l6Primes.l1 k xs (m : Int) (v : Int) (n : Int) w = some r ∧ impl_Table_primes.l1 k xs (m : Int) ((2 ^ n : Nat) : Int) (m : Int) ((m : Int) + 1) (v : Int) (n : Int) w = some r := by
  have h32 := pow_le_32 hn
  intro e
  induction e with
  | zero =>
    intro v k xs hv hx hk
    obtain ⟨k, rfl⟩ : ∃ q, k = q + 1 := ⟨k - 1, by omega⟩
    simp only [spec_l6Primes.l1, impl_Table_primes.l1]
    rw [if_neg (show ¬ (v : Int) ≤ (m : Int) by omega), if_neg (show ¬ (v : Int) < (m : Int) + 1 by omega), w64 (by omega) (by omega)]
    exact H k xs (by omega) (by omega)
  | succ e ih =>
    intro v k xs hv hx hk
    obtain ⟨k, rfl⟩ : ∃ q, k = q + 1 := ⟨k - 1, by omega⟩
    have ih' : ∀ ys : List S28, ys.length ≤ 33 * m + (v + 1) → ∃ r, r.length ≤ 1100 ∧ spec_l6Primes.l1 k ys (m : Int) ((v : Int) + 1) (n : Int) w = some r ∧ impl_Table_primes.l1 k ys (m : Int) ((2 ^ n : Nat) : Int) (m : Int) ((m : Int) + 1) ((v : Int) + 1) (n : Int) w = some r := fun ys hy => ih (v + 1) k ys (by omega) hy (by omega)
    simp only [spec_l6Primes.l1, impl_Table_primes.l1]
    rw [if_pos (show (v : Int) ≤ (m : Int) by omega), if_pos (show (v : Int) < (m : Int) + 1 by omega), and_int (by omega) (by omega) (by omega) (by omega), andNot_int (by omega) (by omega) (by omega) (by omega), w64 (x := (v : Int) + 1) (by omega) (by omega)]
    simp only [Int.toNat_natCast]
    by_cases hs : v &&& m = v
    · obtain ⟨b, b1, b2⟩ := prime_same n m v w hn hm hs w0 w1 (k := k) (by omega)
      rw [if_pos (show ((v &&& m : Nat) : Int) = (v : Int) by omega), if_pos (show ((v ^^^ (v &&& m) : Nat) : Int) = 0 by rw [hs, Nat.xor_self]; rfl), b1, b2]
      simp only [Option.bind_some]
      cases b
      · simp only [Bool.false_eq_true, if_false]
        exact ih' xs (by omega)
      · simp only [if_true, if_pos (show xs.length < 8796093022208 by omega)]
        exact ih' _ (by simp; omega)
    · have hx2 : ¬ (v ^^^ (v &&& m) = 0) := fun q => hs (xor_zero.mp q).symm
      rw [if_neg (show ¬ ((v &&& m : Nat) : Int) = (v : Int) by omega), if_neg (show ¬ ((v ^^^ (v &&& m) : Nat) : Int) = 0 by omega)]
      exact ih' xs (by omega)

theorem primes_outer (n : Nat) (w : Int) (hn : n ≤ 5) (w0 : 0 ≤ w) (w1 : w ≤ 4294967296) : ∀ (d m k : Nat) (xs : List S28), m + d = 2 ^ n → xs.length ≤ 33 * m → 34 * d + 60 ≤ k →
    ∃ r, r.length ≤ 1100 ∧ spec_l6Primes.l0 k xs (m : Int) (n : Int) w = some r ∧ impl_Table_primes.l0 k xs ((2 ^ n : Nat) : Int) (m : Int) (n : Int) w = some r := by
  have h32 := pow_le_32 hn
  intro d
  induction d with
  | zero =>
    intro m k xs hm hx hk
    obtain ⟨k, rfl⟩ : ∃ q, k = q + 1 := ⟨k - 1, by omega⟩
    simp only [spec_l6Primes.l0, impl_Table_primes.l0]
    rw [if_pos (show 0 ≤ (n : Int) by omega), shl_two_nat hn, if_neg (by omega), if_neg (by omega)]
    exact ⟨xs, by omega, rfl, rfl⟩
  | succ d ih =>
    intro m k xs hm hx hk
    obtain ⟨k, rfl⟩ : ∃ q, k = q + 1 := ⟨k - 1, by omega⟩
    simp only [spec_l6Primes.l0, impl_Table_primes.l0]
    have hlt : (m : Int) < ((2 ^ n : Nat) : Int) := by exact_mod_cast (show m < 2 ^ n by omega)
    rw [if_pos (show 0 ≤ (n : Int) by omega), shl_two_nat hn, if_pos hlt, if_pos hlt, w64 (by omega) (by omega)]
    refine primes_inner n m d w hn (by omega) w0 w1 ?_ (m + 1) 0 k xs (by omega) (by omega) (by omega)
    intro k' ys hy hk'
    exact ih (m + 1) k' ys (by omega) (by omega) hk'

theorem primes_same {n w : Int} (h : isT n w = true) {k : Nat} (hk : 1200 ≤ k) : ∃ r, r.length ≤ 1100 ∧ spec_l6Primes.f k n w = some r ∧ impl_Table_primes.f k n w = some r := by
  obtain ⟨h0, h5, hw, hl⟩ := isT_yes h
  have hl2 := lim_le n
  obtain ⟨N, rfl⟩ := Int.eq_ofNat_of_zero_le h0
  have h32 := pow_le_32 (show N ≤ 5 by omega)
  unfold spec_l6Primes.f impl_Table_primes.f
  rw [size_is h0 h5, two_nat (by omega)]
  exact primes_outer N w (by omega) hw (by omega) (2 ^ N) 0 k [] (by omega) (by simp) (by omega)
end Go.Proofs.Ytgkmgiojbiikgaa.Pri
