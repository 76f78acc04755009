/- The prime terms of a table as a plain list, what is known of its members, and that every one of the table is covered. Conditions: the bounds that stand in each. -/
import Derived.Test.YtfiejicdlaknnaaK4
import Derived.Test.YtfiejicdlaknnaaPv7
import Derived.Test.YtfiejicdlaknnaaPz3
import Derived.Test.YtfiejicdlaknnaaK2
import Derived.Test.YtfiejicdlaknnaaPm1

namespace Go.Proofs.Ytfiejicdlaknnaa.Prm
set_option linter.unusedVariables false
set_option linter.unusedSimpArgs false
open Go Go.RowKit Go.Proofs.Ytfiejicdlaknnaa.P Go.Proofs.Ytfiejicdlaknnaa.Bits Go.Proofs.Ytfiejicdlaknnaa.Tab Go.Proofs.Ytfiejicdlaknnaa.Shl Go.Proofs.Ytfiejicdlaknnaa.Imp Go.Proofs.Ytfiejicdlaknnaa.Pri Go.Proofs.YtfiejicdlaknnaaW.PrintWords Go.Proofs.YtfiejicdlaknnaaW.PrintLast Go.Proofs.YtfiejicdlaknnaaW.PrintMore

def im (n W m v : Nat) : Bool := !seenB W m v false (2 ^ n)
theorem im_iff (n W m v : Nat) : im n W m v = true ↔ ∀ x, x < 2 ^ n → x &&& m = v → W.testBit x = true := by
 unfold im
 rw [Bool.not_eq_true', ← Bool.not_eq_true, seen_iff]
 constructor
 ·intro h x hx hm
  cases hb : W.testBit x
  ·exact absurd ⟨x, hx, hm, hb⟩ h
  ·rfl
 ·rintro h ⟨x, hx, hm, hb⟩
  rw [h x hx hm] at hb
  exact absurd hb (by decide)

/-- from place i on, d places: no letter may be left out -/
def noDrop (n W m v : Nat) : Nat → Nat → Bool
 | _, 0 => true
 | i, d + 1 => !(m.testBit i && im n W (m ^^^ (m &&& 2 ^ i)) (v ^^^ (v &&& 2 ^ i))) && noDrop n W m v (i + 1) d
def prB (n W m v : Nat) : Bool := im n W m v && noDrop n W m v 0 n

theorem noDrop_iff (n W m v : Nat) : ∀ d i, noDrop n W m v i d = true ↔ ∀ j, i ≤ j → j < i + d → m.testBit j = true → im n W (m ^^^ (m &&& 2 ^ j)) (v ^^^ (v &&& 2 ^ j)) = false
 | 0, i => by simp [noDrop]; omega
 | d + 1, i => by
  simp only [noDrop, Bool.and_eq_true, noDrop_iff n W m v d (i + 1), Bool.not_eq_true', Bool.and_eq_false_iff]
  constructor
  ·rintro ⟨h1, h2⟩ j a b c
   by_cases e : j = i
   ·subst e
    rcases h1 with h1 | h1
    ·rw [h1] at c; exact absurd c (by decide)
    ·exact h1
   ·exact h2 j (by omega) (by omega) c
  ·intro h
   refine ⟨?_, fun j a b => h j (by omega) (by omega)⟩
   cases hb : m.testBit i
   ·exact Or.inl rfl
   ·exact Or.inr (h i (by omega) (by omega) hb)

theorem sub_and : ∀ (w a : Nat), w - (w &&& a) = w ^^^ (w &&& a) := by
 intro w
 induction w using Nat.strongRecOn with
 | ind w ih =>
  intro a
  by_cases h0 : w = 0
  ·subst h0; simp
  ·have h1 := ih (w / 2) (by omega) (a / 2)
   have d1 : (w &&& a) / 2 = w / 2 &&& a / 2 := Nat.and_div_two
   have d2 : (w ^^^ (w &&& a)) / 2 = w / 2 ^^^ (w &&& a) / 2 := Nat.xor_div_two
   have m1 : (w &&& a) % 2 = w % 2 * (a % 2) := by
    have e := Nat.and_mod_two_pow (a := w) (b := a) (n := 1)
    rw [Nat.pow_one] at e
    rw [e]
    rcases Nat.mod_two_eq_zero_or_one w with hw | hw <;> rcases Nat.mod_two_eq_zero_or_one a with ha | ha <;> simp [hw, ha]
   have m2 : (w ^^^ (w &&& a)) % 2 = (w % 2 + (w &&& a) % 2) % 2 := by
    have e := Nat.xor_mod_two_pow (a := w) (b := w &&& a) (n := 1)
    rw [Nat.pow_one] at e
    rw [e]
    rcases Nat.mod_two_eq_zero_or_one w with hw | hw <;> rcases Nat.mod_two_eq_zero_or_one (w &&& a) with ha | ha <;> simp [hw, ha]
   have hle : w &&& a ≤ w := Nat.and_le_left
   rw [d1] at d2
   rw [← h1] at d2
   rcases Nat.mod_two_eq_zero_or_one w with hw | hw <;> rcases Nat.mod_two_eq_zero_or_one a with ha | ha <;> rw [hw, ha] at m1 <;> rw [hw, m1] at m2 <;> omega

theorem bit_pow (m i : Nat) : (m &&& 2 ^ i = 0 ∧ m.testBit i = false) ∨ (m &&& 2 ^ i = 2 ^ i ∧ m.testBit i = true) := by
 cases hb : m.testBit i
 ·refine Or.inl ⟨?_, rfl⟩
  apply Nat.eq_of_testBit_eq
  intro j
  rw [Nat.testBit_and, Nat.testBit_two_pow, Nat.zero_testBit]
  by_cases e : i = j
  ·subst e; simp [hb]
  ·simp [e]
 ·refine Or.inr ⟨?_, rfl⟩
  apply Nat.eq_of_testBit_eq
  intro j
  rw [Nat.testBit_and, Nat.testBit_two_pow]
  by_cases e : i = j
  ·subst e; simp [hb]
  ·simp [e]

theorem prime_loop2 (n m v : Nat) (w : Int) (hn : n ≤ 5) (hm : m < 2 ^ n) (hs : v &&& m = v) (w0 : 0 ≤ w) (w1 : w ≤ 4294967296) : ∀ (d i k : Nat), i + d = n → d + 33 < k →
  spec_l6Prime.l0 k (i : Int) (n : Int) w (m : Int) (v : Int) = some (noDrop n w.toNat m v i d) ∧ impl_Table_isPrime.l0 k (n : Int) (i : Int) (n : Int) w (m : Int) (v : Int) = some (noDrop n w.toNat m v i d) := by
 have h32 := pow_le_32 hn
 have hle : v &&& m ≤ m := Nat.and_le_right
 rw [hs] at hle
 intro d
 induction d with
 | zero =>
  intro i k hi hk
  obtain ⟨k, rfl⟩ : ∃ q, k = q + 1 := ⟨k - 1, by omega⟩
  simp only [spec_l6Prime.l0, impl_Table_isPrime.l0]
  rw [if_neg (show ¬ (i : Int) < (n : Int) by omega), if_neg (show ¬ (i : Int) < (n : Int) by omega)]
  exact ⟨rfl, rfl⟩
 | succ d ih =>
  intro i k hi hk
  obtain ⟨k, rfl⟩ : ∃ q, k = q + 1 := ⟨k - 1, by omega⟩
  have hp : 2 ^ i ≤ 2 ^ 4 := Nat.pow_le_pow_right (by decide) (by omega)
  have d1 := drop_all ⟨m, by omega⟩ ⟨i, by omega⟩
  have d2 := drop_val ⟨v, by omega⟩ ⟨i, by omega⟩
  have d3 := bit_pow m i
  simp only at d1 d2
  have hpos := Nat.two_pow_pos i
  have es := shl_one_nat (show i ≤ 62 by omega)
  obtain ⟨r1, r2⟩ := ih (i + 1) k (by omega) (by omega)
  rw [show ((i + 1 : Nat) : Int) = (i : Int) + 1 from by omega] at r1 r2
  simp only [noDrop]
  obtain ⟨p, ep⟩ : ∃ p, p = 2 ^ i := ⟨_, rfl⟩
  rw [← ep] at hp d1 d2 d3 hpos es ⊢
  simp only [spec_l6Prime.l0, impl_Table_isPrime.l0]
  rw [if_pos (show (i : Int) < (n : Int) by omega), if_pos (show (i : Int) < (n : Int) by omega), if_pos (show 0 ≤ (i : Int) by omega), if_pos (show 0 ≤ (i : Int) by omega), es, and_int (a := (m : Int)) (by omega) (by omega) (by omega) (by omega), w64 (x := (i : Int) + 1) (by omega) (by omega)]
  simp only [Int.toNat_natCast]
  rcases d3 with ⟨e0, eb⟩ | ⟨e0, eb⟩
  ·rw [if_pos (by omega), if_pos (by omega), eb]
   simp only [Bool.false_and, Bool.not_false, Bool.true_and]
   exact ⟨r1, r2⟩
  ·rcases d1 with d1 | ⟨d1, d3, d4⟩
   ·omega
   ·rw [if_neg (by omega), if_neg (by omega), and_int (a := (v : Int)) (by omega) (by omega) (by omega) (by omega), andNot_int (a := (m : Int)) (by omega) (by omega) (by omega) (by omega), andNot_int (a := (v : Int)) (by omega) (by omega) (by omega) (by omega)]
    simp only [Int.toNat_natCast]
    have hdm := drop_sub (p := p) hs
    rw [w64 (by omega) (by omega), w64 (by omega) (by omega)]
    have e1 : (m : Int) - (p : Int) = ((m ^^^ (m &&& p) : Nat) : Int) := by omega
    have e2 : (v : Int) - ((v &&& p : Nat) : Int) = ((v ^^^ (v &&& p) : Nat) : Int) := by omega
    rw [e1, e2]
    have t := two_nat hn
    rw [implies_spec (by omega) (by omega) w0 w1 (by omega) (by omega) (by omega) (by omega) (by omega), implies_impl (by omega) (by omega) w0 w1 (by omega) (by omega) (by omega) (by rw [Int.toNat_natCast, Int.toNat_natCast]; exact hdm)]
    simp only [Option.bind_some, eb, Bool.true_and]
    have ei : impB (n : Int) w ((m ^^^ (m &&& p) : Nat) : Int) ((v ^^^ (v &&& p) : Nat) : Int) = im n w.toNat (m ^^^ (m &&& p)) (v ^^^ (v &&& p)) := rfl
    rw [ei]
    cases im n w.toNat (m ^^^ (m &&& p)) (v ^^^ (v &&& p))
    ·simp only [Bool.false_eq_true, if_false, Bool.not_false, Bool.true_and]
     exact ⟨r1, r2⟩
    ·simp

theorem prime_is (n m v : Nat) (w : Int) (hn : n ≤ 5) (hm : m < 2 ^ n) (hs : v &&& m = v) (w0 : 0 ≤ w) (w1 : w ≤ 4294967296) {k : Nat} (hk : 40 ≤ k) :
  spec_l6Prime.f k (n : Int) w (m : Int) (v : Int) = some (prB n w.toNat m v) ∧ impl_Table_isPrime.f k (n : Int) w (m : Int) (v : Int) = some (prB n w.toNat m v) := by
 have h32 := pow_le_32 hn
 have t := two_nat hn
 have hle : v &&& m ≤ m := Nat.and_le_right
 rw [hs] at hle
 obtain ⟨r1, r2⟩ := prime_loop2 n m v w hn hm hs w0 w1 n 0 k (by omega) (by omega)
 have r1' : spec_l6Prime.l0 k 0 (n : Int) w (m : Int) (v : Int) = _ := r1
 have r2' : impl_Table_isPrime.l0 k (n : Int) 0 (n : Int) w (m : Int) (v : Int) = _ := r2
 unfold spec_l6Prime.f impl_Table_isPrime.f
 rw [implies_spec (by omega) (by omega) w0 w1 (by omega) (by omega) (by omega) (by omega) (by omega), implies_impl (by omega) (by omega) w0 w1 (by omega) (by omega) (by omega) (by rw [Int.toNat_natCast, Int.toNat_natCast]; exact hs)]
 simp only [Option.bind_some, r1', r2']
 have ei : impB (n : Int) w (m : Int) (v : Int) = im n w.toNat m v := rfl
 rw [ei]
 unfold prB
 cases im n w.toNat m v <;> simp

def inner (n W m : Nat) : Nat → Nat → List S33
 | _, 0 => []
 | v, e + 1 => (if v &&& m = v ∧ prB n W m v = true then [(⟨(m : Int), (v : Int)⟩ : S33)] else []) ++ inner n W m (v + 1) e
def outer (n W : Nat) : Nat → Nat → List S33
 | _, 0 => []
 | m, d + 1 => inner n W m 0 (m + 1) ++ outer n W (m + 1) d
def primesL (n W : Nat) : List S33 := outer n W 0 (2 ^ n)

theorem inner_len (n W m : Nat) : ∀ e v, (inner n W m v e).length ≤ e
 | 0, v => by simp [inner]
 | e + 1, v => by
  have := inner_len n W m e (v + 1)
  simp only [inner, List.length_append]
  split <;> simp <;> omega
theorem outer_len (n W : Nat) : ∀ d m, m + d ≤ 32 → (outer n W m d).length ≤ 33 * d
 | 0, m, _ => by simp [outer]
 | d + 1, m, h => by
  have h1 := outer_len n W d (m + 1) (by omega)
  have h2 := inner_len n W m (m + 1) 0
  simp only [outer, List.length_append]
  omega
theorem primesL_len {n : Nat} (W : Nat) (hn : n ≤ 5) : (primesL n W).length ≤ 1056 := by
 have h := pow_le_32 hn
 have := outer_len n W (2 ^ n) 0 (by omega)
 unfold primesL
 omega

theorem inner_mem (n W m : Nat) (t : S33) : ∀ e v, t ∈ inner n W m v e ↔ ∃ u, v ≤ u ∧ u < v + e ∧ u &&& m = u ∧ prB n W m u = true ∧ t = ⟨(m : Int), (u : Int)⟩
 | 0, v => by simp [inner]; omega
 | e + 1, v => by
  simp only [inner, List.mem_append, inner_mem n W m t e (v + 1)]
  constructor
  ·rintro (h | ⟨u, h1, h2, h3⟩)
   ·split at h
    ·rename_i hh
     exact ⟨v, by omega, by omega, hh.1, hh.2, by simpa using h⟩
    ·simp at h
   ·exact ⟨u, by omega, by omega, h3⟩
  ·rintro ⟨u, h1, h2, h3, h4, h5⟩
   by_cases e' : u = v
   ·subst e'
    left
    rw [if_pos ⟨h3, h4⟩]
    simp [h5]
   ·exact Or.inr ⟨u, by omega, by omega, h3, h4, h5⟩
theorem outer_mem (n W : Nat) (t : S33) : ∀ d m, t ∈ outer n W m d ↔ ∃ a u, m ≤ a ∧ a < m + d ∧ u &&& a = u ∧ prB n W a u = true ∧ t = ⟨(a : Int), (u : Int)⟩
 | 0, m => by simp [outer]; omega
 | d + 1, m => by
  simp only [outer, List.mem_append, outer_mem n W t d (m + 1), inner_mem]
  constructor
  ·rintro (⟨u, h1, h2, h3, h4, h5⟩ | ⟨a, u, h1, h2, h3⟩)
   ·exact ⟨m, u, by omega, by omega, h3, h4, h5⟩
   ·exact ⟨a, u, by omega, by omega, h3⟩
  ·rintro ⟨a, u, h1, h2, h3, h4, h5⟩
   by_cases e' : a = m
   ·subst e'
    have : u &&& a ≤ a := Nat.and_le_right
    exact Or.inl ⟨u, by omega, by omega, h3, h4, h5⟩
   ·exact Or.inr ⟨a, u, by omega, by omega, h3, h4, h5⟩
theorem primesL_mem (n W : Nat) (t : S33) : t ∈ primesL n W ↔ ∃ a u, a < 2 ^ n ∧ u &&& a = u ∧ prB n W a u = true ∧ t = ⟨(a : Int), (u : Int)⟩ := by
 unfold primesL
 rw [outer_mem]
 constructor
 ·rintro ⟨a, u, _, h2, h3⟩; exact ⟨a, u, by omega, h3⟩
 ·rintro ⟨a, u, h2, h3⟩; exact ⟨a, u, by omega, by omega, h3⟩

theorem primes_inner2 (n m d : Nat) (w : Int) (R : List S33) (hn : n ≤ 5) (hm : m < 2 ^ n) (w0 : 0 ≤ w) (w1 : w ≤ 4294967296)
  (H : ∀ (k : Nat) (xs : List S33), xs.length ≤ 33 * (m + 1) → 34 * d + 60 ≤ k → spec_l6Primes.l0 k xs ((m : Int) + 1) (n : Int) w = some (xs ++ R) ∧ impl_Table_primes.l0 k xs ((2 ^ n : Nat) : Int) ((m : Int) + 1) (n : Int) w = some (xs ++ R)) :
  ∀ (e v k : Nat) (xs : List S33), v + e = m + 1 → xs.length ≤ 33 * m + v → 34 * d + 61 + e ≤ k → spec_l6Primes.l1 k xs (m : Int) (v : Int) (n : Int) w = some (xs ++ (inner n w.toNat m v e ++ R)) ∧ impl_Table_primes.l1 k xs (m : Int) ((2 ^ n : Nat) : Int) (m : Int) ((m : Int) + 1) (v : Int) (n : Int) w = some (xs ++ (inner n w.toNat m v e ++ R)) := by
 have h32 := pow_le_32 hn
 intro e
 induction e with
 | zero =>
  intro v k xs hv hx hk
  obtain ⟨k, rfl⟩ : ∃ q, k = q + 1 := ⟨k - 1, by omega⟩
  simp only [spec_l6Primes.l1, impl_Table_primes.l1]
  rw [if_neg (show ¬ (v : Int) ≤ (m : Int) by omega), if_neg (show ¬ (v : Int) < (m : Int) + 1 by omega), w64 (by omega) (by omega)]
  simpa [inner] using H k xs (by omega) (by omega)
 | succ e ih =>
  intro v k xs hv hx hk
  obtain ⟨k, rfl⟩ : ∃ q, k = q + 1 := ⟨k - 1, by omega⟩
  have ih' : ∀ ys : List S33, ys.length ≤ 33 * m + (v + 1) → spec_l6Primes.l1 k ys (m : Int) ((v : Int) + 1) (n : Int) w = some (ys ++ (inner n w.toNat m (v + 1) e ++ R)) ∧ impl_Table_primes.l1 k ys (m : Int) ((2 ^ n : Nat) : Int) (m : Int) ((m : Int) + 1) ((v : Int) + 1) (n : Int) w = some (ys ++ (inner n w.toNat m (v + 1) e ++ R)) := fun ys hy => ih (v + 1) k ys (by omega) hy (by omega)
  simp only [spec_l6Primes.l1, impl_Table_primes.l1, inner]
  rw [if_pos (show (v : Int) ≤ (m : Int) by omega), if_pos (show (v : Int) < (m : Int) + 1 by omega), and_int (by omega) (by omega) (by omega) (by omega), andNot_int (by omega) (by omega) (by omega) (by omega), w64 (x := (v : Int) + 1) (by omega) (by omega)]
  simp only [Int.toNat_natCast]
  by_cases hs : v &&& m = v
  ·obtain ⟨b1, b2⟩ := prime_is n m v w hn hm hs w0 w1 (k := k) (by omega)
   rw [if_pos (show ((v &&& m : Nat) : Int) = (v : Int) by omega), if_pos (show ((v ^^^ (v &&& m) : Nat) : Int) = 0 by rw [hs, Nat.xor_self]; rfl), b1, b2]
   simp only [Option.bind_some]
   cases hb : prB n w.toNat m v
   ·rw [if_neg (show ¬ (v &&& m = v ∧ false = true) by simp)]
    simp only [Bool.false_eq_true, if_false, List.nil_append]
    exact ih' xs (by omega)
   ·rw [if_pos (show (v &&& m = v ∧ true = true) from ⟨hs, rfl⟩)]
    simp only [if_true, if_pos (show xs.length < 8796093022208 by omega)]
    have := ih' (xs ++ [⟨(m : Int), (v : Int)⟩]) (by simp; omega)
    simpa [List.append_assoc] using this
  ·have hx2 : ¬ (v ^^^ (v &&& m) = 0) := fun q => hs (xor_zero.mp q).symm
   rw [if_neg (show ¬ ((v &&& m : Nat) : Int) = (v : Int) by omega), if_neg (show ¬ ((v ^^^ (v &&& m) : Nat) : Int) = 0 by omega), if_neg (show ¬ (v &&& m = v ∧ prB n w.toNat m v = true) from fun q => hs q.1)]
   simp only [List.nil_append]
   exact ih' xs (by omega)

theorem primes_outer2 (n : Nat) (w : Int) (hn : n ≤ 5) (w0 : 0 ≤ w) (w1 : w ≤ 4294967296) : ∀ (d m k : Nat) (xs : List S33), m + d = 2 ^ n → xs.length ≤ 33 * m → 34 * d + 60 ≤ k →
  spec_l6Primes.l0 k xs (m : Int) (n : Int) w = some (xs ++ outer n w.toNat m d) ∧ impl_Table_primes.l0 k xs ((2 ^ n : Nat) : Int) (m : Int) (n : Int) w = some (xs ++ outer n w.toNat m d) := by
 have h32 := pow_le_32 hn
 intro d
 induction d with
 | zero =>
  intro m k xs hm hx hk
  obtain ⟨k, rfl⟩ : ∃ q, k = q + 1 := ⟨k - 1, by omega⟩
  simp only [spec_l6Primes.l0, impl_Table_primes.l0]
  rw [if_pos (show 0 ≤ (n : Int) by omega), shl_two_nat hn, if_neg (by omega), if_neg (by omega)]
  simp [outer]
 | succ d ih =>
  intro m k xs hm hx hk
  obtain ⟨k, rfl⟩ : ∃ q, k = q + 1 := ⟨k - 1, by omega⟩
  simp only [spec_l6Primes.l0, impl_Table_primes.l0]
  have hlt : (m : Int) < ((2 ^ n : Nat) : Int) := by exact_mod_cast (show m < 2 ^ n by omega)
  rw [if_pos (show 0 ≤ (n : Int) by omega), shl_two_nat hn, if_pos hlt, if_pos hlt, w64 (by omega) (by omega)]
  refine primes_inner2 n m d w (outer n w.toNat (m + 1) d) hn (by omega) w0 w1 ?_ (m + 1) 0 k xs (by omega) (by omega) (by omega)
  intro k' ys hy hk'
  exact ih (m + 1) k' ys (by omega) (by omega) hk'

theorem primes_are {n : Nat} {w : Int} (h : isT (n : Int) w = true) {k : Nat} (hk : 1200 ≤ k) : spec_l6Primes.f k (n : Int) w = some (primesL n w.toNat) ∧ impl_Table_primes.f k (n : Int) w = some (primesL n w.toNat) := by
 obtain ⟨h0, h5, hw, hl⟩ := isT_yes h
 have hl2 := lim_le (n : Int)
 have h32 := pow_le_32 (show n ≤ 5 by omega)
 unfold spec_l6Primes.f impl_Table_primes.f
 rw [size_is h0 h5, two_nat (by omega)]
 exact primes_outer2 n w (by omega) hw (by omega) (2 ^ n) 0 k [] (by omega) (by simp) (by omega)

/-- does the term hold at x -/
def hold (t : S33) (x : Nat) : Bool := decide (x &&& t.f0.toNat = t.f1.toNat)

theorem hold_in {n W : Nat} {t : S33} (h : t ∈ primesL n W) {x : Nat} (hx : x < 2 ^ n) (ht : hold t x = true) : W.testBit x = true := by
 obtain ⟨a, u, h1, h2, h3, rfl⟩ := (primesL_mem n W t).mp h
 unfold prB at h3
 rw [Bool.and_eq_true] at h3
 exact (im_iff n W a u).mp h3.1 x hx (of_decide_eq_true ht)

theorem drop_hold {x m v p : Nat} (h : x &&& m = v) : x &&& (m ^^^ (m &&& p)) = v ^^^ (v &&& p) := by
 subst h
 apply Nat.eq_of_testBit_eq
 intro i
 simp only [Nat.testBit_and, Nat.testBit_xor]
 cases x.testBit i <;> cases m.testBit i <;> cases p.testBit i <;> rfl

theorem drop_lt {m i : Nat} (h : m.testBit i = true) : m ^^^ (m &&& 2 ^ i) < m := by
 have hp := Nat.two_pow_pos i
 have hle : m &&& 2 ^ i ≤ m := Nat.and_le_left
 rcases bit_pow m i with ⟨_, e⟩ | ⟨e, _⟩
 ·rw [e] at h; exact absurd h (by decide)
 ·rw [← sub_and, e]
  omega

theorem im_cover (n W x : Nat) (hx : x < 2 ^ n) : ∀ (m v : Nat), m < 2 ^ n → x &&& m = v → im n W m v = true → ∃ t ∈ primesL n W, hold t x = true := by
 intro m
 induction m using Nat.strongRecOn with
 | ind m ih =>
  intro v hm hv hi
  by_cases hp : prB n W m v = true
  ·refine ⟨⟨(m : Int), (v : Int)⟩, (primesL_mem n W _).mpr ⟨m, v, hm, ?_, hp, rfl⟩, ?_⟩
   ·rw [← hv, Nat.and_assoc, Nat.and_self]
   ·exact decide_eq_true (by simpa using hv)
  ·have hnd : ¬ noDrop n W m v 0 n = true := by
    intro q
    apply hp
    unfold prB
    rw [hi, q]
    rfl
   rw [noDrop_iff] at hnd
   have : ∃ j, j < n ∧ m.testBit j = true ∧ im n W (m ^^^ (m &&& 2 ^ j)) (v ^^^ (v &&& 2 ^ j)) = true := by
    apply Classical.byContradiction
    intro hno
    apply hnd
    intro j _ hj hb
    cases hq : im n W (m ^^^ (m &&& 2 ^ j)) (v ^^^ (v &&& 2 ^ j))
    ·rfl
    ·exact absurd ⟨j, by omega, hb, hq⟩ hno
   obtain ⟨j, hj, hb, hq⟩ := this
   have hlt := drop_lt hb
   exact ih _ hlt _ (by omega) (drop_hold hv) hq

theorem cover {n W x : Nat} (hx : x < 2 ^ n) (hb : W.testBit x = true) : ∃ t ∈ primesL n W, hold t x = true := by
 refine im_cover n W x hx (2 ^ n - 1) x (by have := Nat.two_pow_pos n; omega) ?_ ?_
 ·rw [Nat.and_two_pow_sub_one_eq_mod, Nat.mod_eq_of_lt hx]
 ·rw [im_iff]
  intro y hy he
  rw [Nat.and_two_pow_sub_one_eq_mod, Nat.mod_eq_of_lt hy] at he
  rw [he]
  exact hb

theorem any_primes {n W x : Nat} (hx : x < 2 ^ n) : ((primesL n W).any fun t => hold t x) = W.testBit x := by
 cases hb : W.testBit x
 ·rw [Bool.eq_false_iff]
  intro q
  obtain ⟨t, ht, h⟩ := List.any_eq_true.mp q
  rw [hold_in ht hx h] at hb
  exact absurd hb (by decide)
 ·obtain ⟨t, ht, h⟩ := cover hx hb
  exact List.any_eq_true.mpr ⟨t, ht, h⟩

theorem wordOf_pos (p : Nat → Bool) (m : Nat) : 0 < wordOf p m ↔ ∃ x, x < m ∧ p x = true := by
 constructor
 ·intro h
  apply Classical.byContradiction
  intro q
  have : wordOf p m = 0 := by
   apply Nat.eq_of_testBit_eq
   intro i
   rw [testBit_wordOf, Nat.zero_testBit]
   by_cases hi : i < m
   ·cases hp : p i
    ·simp
    ·exact absurd ⟨i, hi, hp⟩ q
   ·simp [hi]
  omega
 ·rintro ⟨x, hx, hp⟩
  have : (wordOf p m).testBit x = true := by rw [testBit_wordOf, hp]; simp [hx]
  rcases Nat.eq_zero_or_pos (wordOf p m) with h | h
  ·rw [h, Nat.zero_testBit] at this; exact absurd this (by decide)
  ·exact h

theorem wordOf_eq {p q : Nat → Bool} {m : Nat} (h : wordOf p m = wordOf q m) (i : Nat) (hi : i < m) : p i = q i := by
 have e : (wordOf p m).testBit i = (wordOf q m).testBit i := by rw [h]
 rw [testBit_wordOf, testBit_wordOf] at e
 simpa [hi] using e

end Go.Proofs.Ytfiejicdlaknnaa.Prm

namespace Go.Proofs.Ytfiejicdlaknnaa.Ess
set_option linter.unusedVariables false
set_option linter.unusedSimpArgs false
open Go Go.RowKit Go.Proofs.Ytfiejicdlaknnaa.P Go.Proofs.Ytfiejicdlaknnaa.Bits Go.Proofs.Ytfiejicdlaknnaa.Tab Go.Proofs.Ytfiejicdlaknnaa.Shl Go.Proofs.Ytfiejicdlaknnaa.Imp Go.Proofs.Ytfiejicdlaknnaa.Pri Go.Proofs.Ytfiejicdlaknnaa.Prm Go.Proofs.YtfiejicdlaknnaaW.PrintWords Go.Proofs.YtfiejicdlaknnaaW.PrintLast Go.Proofs.YtfiejicdlaknnaaW.PrintMore

theorem prime_nums {n W : Nat} {t : S33} (hn : n ≤ 5) (h : t ∈ primesL n W) : ∃ a u : Nat, t = ⟨(a : Int), (u : Int)⟩ ∧ a < 2 ^ n ∧ a < 32 ∧ u < 32 ∧ u &&& a = u := by
 obtain ⟨a, u, h1, h2, _, rfl⟩ := (primesL_mem n W t).mp h
 have := pow_le_32 hn
 have hle : u &&& a ≤ a := Nat.and_le_right
 exact ⟨a, u, rfl, h1, by omega, by omega, h2⟩

theorem holdsB_is {n W : Nat} {t : S33} (hn : n ≤ 5) (h : t ∈ primesL n W) {x : Nat} (hx : x < 32) : holdsB (x : Int) t = hold t x := by
 obtain ⟨a, u, rfl, h1, h2, h3, h4⟩ := prime_nums hn h
 unfold holdsB hold
 rw [and_int (by omega) (by omega) (by simp) (by simp; omega)]
 simp only [Int.toNat_natCast]
 rw [Bool.eq_iff_iff, beq_iff_eq, decide_eq_true_eq]
 omega

theorem word_is {n W : Nat} {t : S33} (hn : n ≤ 5) (h : t ∈ primesL n W) {k : Nat} (hk : 32 < k) : spec_l6Word.f k (n : Int) t.f0 t.f1 = some ((wordOf (hold t) (2 ^ n) : Nat) : Int) := by
 obtain ⟨a, u, rfl, h1, h2, h3, h4⟩ := prime_nums hn h
 have := pow_le_32 hn
 have e := word_loop n a u hn h2 h3 (2 ^ n) 0 k (by omega) (by omega)
 have e' : spec_l6Word.f k (n : Int) (a : Int) (u : Int) = some ((wt a u (2 ^ n) : Nat) : Int) := e
 rw [e']
 unfold wt
 rfl

theorem rd_at {l : List S33} {k : Nat} (h : k < l.length) : rd_T33 l (k : Int) = l[k] := by
 unfold rd_T33
 rw [Int.toNat_natCast, List.getD_eq_getElem?_getD, List.getElem?_eq_getElem h]
 rfl

end Go.Proofs.Ytfiejicdlaknnaa.Ess

namespace Go.Proofs.Ytfiejicdlaknnaa.Tot
set_option linter.unusedVariables false
set_option linter.unusedSimpArgs false
open Go Go.RowKit Go.Proofs.Ytfiejicdlaknnaa.P Go.Proofs.Ytfiejicdlaknnaa.Bits Go.Proofs.Ytfiejicdlaknnaa.Tab Go.Proofs.Ytfiejicdlaknnaa.Shl Go.Proofs.Ytfiejicdlaknnaa.Imp Go.Proofs.Ytfiejicdlaknnaa.Pri Go.Proofs.Ytfiejicdlaknnaa.Prm Go.Proofs.Ytfiejicdlaknnaa.Ess Go.Proofs.YtfiejicdlaknnaaW.PrintWords Go.Proofs.YtfiejicdlaknnaaW.PrintLast Go.Proofs.YtfiejicdlaknnaaW.PrintMore
theorem isM_nums {n m v : Int} (h : isM n m v = true) : ∃ N a u : Nat, n = (N : Int) ∧ N ≤ 5 ∧ m = (a : Int) ∧ v = (u : Int) ∧ a < 2 ^ N ∧ a < 32 ∧ u < 32 ∧ u &&& a = u := by
 have h' := of_decide_eq_true h
 obtain ⟨h0, h5, m0, m1, v0, v1, hs⟩ := h'
 obtain ⟨N, rfl⟩ := Int.eq_ofNat_of_zero_le h0
 obtain ⟨a, rfl⟩ := Int.eq_ofNat_of_zero_le m0
 obtain ⟨u, rfl⟩ := Int.eq_ofNat_of_zero_le v0
 rw [two_nat (by omega)] at m1
 have := pow_le_32 (show N ≤ 5 by omega)
 simp only [Int.toNat_natCast] at hs
 exact ⟨N, a, u, rfl, by omega, rfl, rfl, by omega, by omega, by omega, hs⟩
theorem word_isM {n : Nat} {t : S33} (h : isM (n : Int) t.f0 t.f1 = true) {k : Nat} (hk : 32 < k) : spec_l6Word.f k (n : Int) t.f0 t.f1 = some ((wordOf (hold t) (2 ^ n) : Nat) : Int) := by
 obtain ⟨N, a, u, hN, h5, ha, hu, h1, h2, h3, h4⟩ := isM_nums h
 obtain rfl : n = N := by omega
 have := pow_le_32 h5
 have e := word_loop n a u h5 h2 h3 (2 ^ n) 0 k (by omega) (by omega)
 have e' : spec_l6Word.f k (n : Int) (a : Int) (u : Int) = some ((wt a u (2 ^ n) : Nat) : Int) := e
 rw [ha, hu, e']
 unfold wt
 congr 3
 funext x
 unfold hold
 rw [ha, hu]
 rfl
theorem holdsB_isM {n : Nat} {t : S33} (h : isM (n : Int) t.f0 t.f1 = true) {x : Nat} (hx : x < 32) : holdsB (x : Int) t = hold t x := by
 obtain ⟨N, a, u, hN, h5, ha, hu, h1, h2, h3, h4⟩ := isM_nums h
 unfold holdsB hold
 rw [ha, hu, and_int (by omega) (by omega) (by omega) (by omega)]
 simp only [Int.toNat_natCast]
 rw [Bool.eq_iff_iff, beq_iff_eq, decide_eq_true_eq]
 omega
def good (n : Int) (l : List S33) : Bool := l.all fun t => isM n t.f0 t.f1
def sumW (l : List S33) (M : Nat) : Nat := wordOf (fun x => l.any fun t => hold t x) M
theorem sumW_snoc (l : List S33) (t : S33) (M : Nat) : sumW (l ++ [t]) M = sumW l M ||| wordOf (hold t) M := by
 apply Nat.eq_of_testBit_eq
 intro i
 unfold sumW
 rw [Nat.testBit_or, testBit_wordOf, testBit_wordOf, testBit_wordOf]
 simp only [List.any_append, List.any_cons, List.any_nil, Bool.or_false]
 cases decide (i < M) <;> rfl
theorem good_at {n : Int} {l : List S33} (h : good n l = true) {i : Nat} (hi : i < l.length) : isM n (rd_T33 l (i : Int)).f0 (rd_T33 l (i : Int)).f1 = true :=
 List.all_eq_true.mp h _ (rd_mem hi)
theorem spec_tot_yes {n : Nat} (hn : n ≤ 5) (l : List S33) (hl : l.length ≤ 1048576) (hg : good (n : Int) l = true) : ∀ (d i k : Nat), i + d = l.length → d + 34 < k →
  spec_TableOfTerms.l0 k (n : Int) l ((sumW (l.take i) (2 ^ n) : Nat) : Int) (i : Int) = some ((n : Int), ((sumW l (2 ^ n) : Nat) : Int), true) := by
 have h32 := pow_le_32 hn
 intro d
 induction d with
 | zero =>
  intro i k hi hk
  obtain ⟨k, rfl⟩ : ∃ q, k = q + 1 := ⟨k - 1, by omega⟩
  obtain rfl : i = l.length := by omega
  simp only [spec_TableOfTerms.l0]
  rw [if_neg (by omega), l1In_is]
  have e : decide (0 ≤ (n : Int) ∧ (n : Int) ≤ 5) = true := decide_eq_true (by omega)
  rw [e]
  simp [List.take_length]
 | succ d ih =>
  intro i k hi hk
  obtain ⟨k, rfl⟩ : ∃ q, k = q + 1 := ⟨k - 1, by omega⟩
  have hil : i < l.length := by omega
  have hm := good_at hg hil
  have ih' := ih (i + 1) k (by omega) (by omega)
  have et : l.take (i + 1) = l.take i ++ [rd_T33 l (i : Int)] := by rw [rd_at hil, List.take_succ_eq_append_getElem hil]
  have b1 : sumW (l.take i) (2 ^ n) < 2 ^ 63 := word63 (fun x => (l.take i).any fun t => hold t x) (m := 2 ^ n) (by omega)
  have b2 := word63 (hold (rd_T33 l (i : Int))) (m := 2 ^ n) (by omega)
  simp only [spec_TableOfTerms.l0]
  rw [if_pos (show (i : Int) < (l.length : Int) by omega), if_pos (show 0 ≤ (i : Int) by omega), spec_IsTerm_is, hm]
  simp only [Option.bind_some, if_true]
  rw [word_isM hm (by omega)]
  simp only [Option.bind_some]
  rw [w64 (by omega) (by omega), or_nat _ _ b1 b2]
  rw [et, sumW_snoc, show ((i + 1 : Nat) : Int) = (i : Int) + 1 from by omega] at ih'
  exact ih'
theorem spec_tot_no {n : Int} (l : List S33) (hl : l.length ≤ 1048576) (hg : (decide (0 ≤ n ∧ n ≤ 5) && good n l) = false) : ∀ (d i k : Nat) (w : Int), i + d = l.length → (∀ j, j < i → isM n (rd_T33 l (j : Int)).f0 (rd_T33 l (j : Int)).f1 = true) → d + 34 < k →
  spec_TableOfTerms.l0 k n l w (i : Int) = some (0, 0, false) := by
 intro d
 induction d with
 | zero =>
  intro i k w hi hj hk
  obtain ⟨k, rfl⟩ : ∃ q, k = q + 1 := ⟨k - 1, by omega⟩
  obtain rfl : i = l.length := by omega
  simp only [spec_TableOfTerms.l0]
  rw [if_neg (by omega), l1In_is]
  have hgood : good n l = true := by
   refine List.all_eq_true.mpr fun t ht => ?_
   obtain ⟨j, hjl, rfl⟩ := List.mem_iff_getElem.mp ht
   have := hj j hjl
   rwa [rd_at hjl] at this
  rw [hgood, Bool.and_true] at hg
  rw [hg]
  simp
 | succ d ih =>
  intro i k w hi hj hk
  obtain ⟨k, rfl⟩ : ∃ q, k = q + 1 := ⟨k - 1, by omega⟩
  have hil : i < l.length := by omega
  simp only [spec_TableOfTerms.l0]
  rw [if_pos (show (i : Int) < (l.length : Int) by omega), if_pos (show 0 ≤ (i : Int) by omega), spec_IsTerm_is]
  cases hm : isM n (rd_T33 l (i : Int)).f0 (rd_T33 l (i : Int)).f1
  ·simp
  ·obtain ⟨N, a, u, hN, _⟩ := isM_nums hm
   subst hN
   simp only [Option.bind_some, if_true]
   rw [word_isM hm (by omega)]
   simp only [Option.bind_some]
   rw [w64 (by omega) (by omega), show (i : Int) + 1 = ((i + 1 : Nat) : Int) from by omega]
   refine ih (i + 1) k _ (by omega) ?_ (by omega)
   intro j hjl
   by_cases e : j = i
   ·subst e; exact hm
   ·exact hj j (by omega)
theorem areTerms_is (n : Int) (l : List S33) (hl : l.length ≤ 1048576) (hw : ∀ t ∈ l, t.f1 ≤ 9223372036854775807) : impl_areTerms.f n l = some (decide (0 ≤ n ∧ n ≤ 5) && good n l) := by
 unfold impl_areTerms.f
 by_cases h : 0 ≤ n ∧ n ≤ 5
 ·have h1 : (l.all fun t => (impl_IsTerm.f n t.f0 t.f1).isSome) = true := List.all_eq_true.mpr fun t ht => by
   rw [impl_IsTerm_is n t.f0 t.f1 (hw t ht)]
   rfl
  rw [if_pos h, if_pos ⟨by omega, h1⟩, decide_eq_true h, Bool.true_and]
  congr 1
  have : ∀ t ∈ l, noTmB n t = !isM n t.f0 t.f1 := fun t ht => by
   unfold noTmB isTmB
   rw [impl_IsTerm_is n t.f0 t.f1 (hw t ht)]
   rfl
  unfold good
  rw [Bool.eq_iff_iff, Bool.not_eq_true', ← Bool.not_eq_true, List.all_eq_true, List.any_eq_true]
  constructor
  ·intro q t ht
   cases hm : isM n t.f0 t.f1
   ·exact absurd ⟨t, ht, by rw [this t ht, hm]; rfl⟩ q
   ·rfl
  ·rintro q ⟨t, ht, hp⟩
   rw [this t ht, q t ht] at hp
   exact absurd hp (by decide)
 ·rw [if_neg h, decide_eq_false h]
  rfl
theorem tot_same (n : Int) (l : List S33) (hl : l.length ≤ 1048576) (hw : ∀ t ∈ l, t.f1 ≤ 9223372036854775807) : ∃ r, (∀ k, 1048700 ≤ k → spec_TableOfTerms.f k n l = some r) ∧ impl_TableOfTerms.f n l = some r := by
 cases hg : (decide (0 ≤ n ∧ n ≤ 5) && good n l)
 ·refine ⟨(0, 0, false), fun k hk => ?_, ?_⟩
  ·unfold spec_TableOfTerms.f
   exact spec_tot_no l hl hg l.length 0 k 0 (by omega) (fun j hj => absurd hj (by omega)) (by omega)
  ·unfold impl_TableOfTerms.f
   rw [areTerms_is n l hl hw, hg]
   simp
 ·have hh := hg
  rw [Bool.and_eq_true, decide_eq_true_eq] at hh
  obtain ⟨⟨h0, h5⟩, hgood⟩ := hh
  obtain ⟨N, rfl⟩ := Int.eq_ofNat_of_zero_le h0
  refine ⟨((N : Int), ((sumW l (2 ^ N) : Nat) : Int), true), fun k hk => ?_, ?_⟩
  ·unfold spec_TableOfTerms.f
   have := spec_tot_yes (n := N) (by omega) l hl hgood l.length 0 k (by omega) (by omega)
   have e0 : sumW (l.take 0) (2 ^ N) = 0 := by
    apply Nat.eq_of_testBit_eq
    intro i
    unfold sumW
    rw [testBit_wordOf]
    simp
   rw [e0] at this
   exact this
  ·unfold impl_TableOfTerms.f
   rw [areTerms_is _ l hl hw, hg]
   simp only [Option.bind_some, if_true]
   unfold impl_sumOf.f
   rw [if_pos ⟨by omega, by omega, by omega⟩]
   simp only [Option.bind_some, Int.toNat_natCast]
   have h32 := pow_le_32 (show N ≤ 5 by omega)
   have : wordOf (fun x => l.any (holdsB (x : Int))) (2 ^ N) = sumW l (2 ^ N) := by
    unfold sumW
    apply wordOf_congr
    intro x hx
    rw [Bool.eq_iff_iff, List.any_eq_true, List.any_eq_true]
    constructor
    ·rintro ⟨t, ht, hp⟩
     rw [holdsB_isM (List.all_eq_true.mp hgood t ht) (by omega)] at hp
     exact ⟨t, ht, hp⟩
    ·rintro ⟨t, ht, hp⟩
     refine ⟨t, ht, ?_⟩
     rw [holdsB_isM (List.all_eq_true.mp hgood t ht) (by omega)]
     exact hp
   rw [this]
end Go.Proofs.Ytfiejicdlaknnaa.Tot
