/- Plain lemmas on Go's bit operations over whole numbers from 0 to 2^63 - 1, on words that are made bit by bit, and on shifts: no program in sight. Conditions: the bounds that stand in each. -/
import Derived.Laws.Entries
import Derived.Laws.BitsLemmas
import Derived.RowKit
import Derived.OpenShut
import Derived.Laws.BytesArg
namespace Go.Proofs.Ytijpcemcijaeeaa.Bits
set_option linter.unusedVariables false
set_option linter.unusedSimpArgs false
open Go Go.RowKit

theorem p63 : (2 : Nat) ^ 63 = 9223372036854775808 := by decide +kernel

theorem wrap_nat (n : Nat) (h : n < 2 ^ 63) : IntKind.i64.wrap (n : Int) = (n : Int) := by
 rw [IntKind.wrap_i64]
 rw [p63] at h
 omega

theorem w64 {x : Int} (h0 : -9223372036854775808 ≤ x) (h1 : x ≤ 9223372036854775807) : wrap64 x = x := by
 unfold wrap64
 omega

theorem ofInt_nat (a : Nat) (ha : a < 2 ^ 63) : (BitVec.ofInt 64 (a : Int)).toNat = a := by
 rw [BitVec.ofInt_natCast, BitVec.toNat_ofNat]
 exact Nat.mod_eq_of_lt (Nat.lt_of_lt_of_le ha (Nat.pow_le_pow_right (by decide) (by decide)))

theorem and_nat (a b : Nat) (ha : a < 2 ^ 63) (hb : b < 2 ^ 63) : bits .and .i64 (a : Int) (b : Int) = ((a &&& b : Nat) : Int) := by
 show IntKind.i64.wrap (((BitVec.ofInt 64 (a : Int) &&& BitVec.ofInt 64 (b : Int)).toNat : Nat) : Int) = _
 rw [BitVec.toNat_and, ofInt_nat a ha, ofInt_nat b hb]
 exact wrap_nat _ (Nat.and_lt_two_pow _ hb)

theorem or_nat (a b : Nat) (ha : a < 2 ^ 63) (hb : b < 2 ^ 63) : bits .or .i64 (a : Int) (b : Int) = ((a ||| b : Nat) : Int) := by
 show IntKind.i64.wrap (((BitVec.ofInt 64 (a : Int) ||| BitVec.ofInt 64 (b : Int)).toNat : Nat) : Int) = _
 rw [BitVec.toNat_or, ofInt_nat a ha, ofInt_nat b hb]
 exact wrap_nat _ (Nat.or_lt_two_pow ha hb)

theorem xor_nat (a b : Nat) (ha : a < 2 ^ 63) (hb : b < 2 ^ 63) : bits .xor .i64 (a : Int) (b : Int) = ((a ^^^ b : Nat) : Int) := by
 show IntKind.i64.wrap (((BitVec.ofInt 64 (a : Int) ^^^ BitVec.ofInt 64 (b : Int)).toNat : Nat) : Int) = _
 rw [BitVec.toNat_xor, ofInt_nat a ha, ofInt_nat b hb]
 exact wrap_nat _ (Nat.xor_lt_two_pow ha hb)

theorem andNot_nat (a b : Nat) (ha : a < 2 ^ 63) (hb : b < 2 ^ 63) : bits .andNot .i64 (a : Int) (b : Int) = ((a ^^^ (a &&& b) : Nat) : Int) := by
 have e : (BitVec.ofInt 64 (a : Int) &&& ~~~ BitVec.ofInt 64 (b : Int)).toNat = a ^^^ (a &&& b) := by
  apply Nat.eq_of_testBit_eq
  intro i
  have h1 := ofInt_nat a ha
  have h2 := ofInt_nat b hb
  by_cases hi : i < 64
  ·have e1 : (BitVec.ofInt 64 (a : Int)).getLsbD i = a.testBit i := by rw [← BitVec.testBit_toNat, h1]
   have e2 : (BitVec.ofInt 64 (b : Int)).getLsbD i = b.testBit i := by rw [← BitVec.testBit_toNat, h2]
   rw [BitVec.testBit_toNat]
   simp only [BitVec.getLsbD_and, BitVec.getLsbD_not, hi, decide_true, Bool.true_and, e1, e2, Nat.testBit_xor, Nat.testBit_and]
   cases a.testBit i <;> cases b.testBit i <;> rfl
  ·have ha' : a.testBit i = false := Nat.testBit_lt_two_pow (Nat.lt_of_lt_of_le ha (Nat.pow_le_pow_right (by decide) (by omega)))
   rw [BitVec.testBit_toNat]
   rw [BitVec.getLsbD_of_ge _ _ (by omega)]
   simp [Nat.testBit_xor, Nat.testBit_and, ha']
 show IntKind.i64.wrap (((BitVec.ofInt 64 (a : Int) &&& ~~~ BitVec.ofInt 64 (b : Int)).toNat : Nat) : Int) = _
 rw [e]
 exact wrap_nat _ (Nat.xor_lt_two_pow ha (Nat.and_lt_two_pow _ hb))

theorem lt63 {a : Int} (h : a ≤ 9223372036854775807) : a.toNat < 2 ^ 63 := by
 rw [p63]
 omega

theorem and_int {a b : Int} (a0 : 0 ≤ a) (a1 : a ≤ 9223372036854775807) (b0 : 0 ≤ b) (b1 : b ≤ 9223372036854775807) : bits .and .i64 a b = ((a.toNat &&& b.toNat : Nat) : Int) := by
 rw [← and_nat _ _ (lt63 a1) (lt63 b1), Int.toNat_of_nonneg a0, Int.toNat_of_nonneg b0]
theorem or_int {a b : Int} (a0 : 0 ≤ a) (a1 : a ≤ 9223372036854775807) (b0 : 0 ≤ b) (b1 : b ≤ 9223372036854775807) : bits .or .i64 a b = ((a.toNat ||| b.toNat : Nat) : Int) := by
 rw [← or_nat _ _ (lt63 a1) (lt63 b1), Int.toNat_of_nonneg a0, Int.toNat_of_nonneg b0]
theorem xor_int {a b : Int} (a0 : 0 ≤ a) (a1 : a ≤ 9223372036854775807) (b0 : 0 ≤ b) (b1 : b ≤ 9223372036854775807) : bits .xor .i64 a b = ((a.toNat ^^^ b.toNat : Nat) : Int) := by
 rw [← xor_nat _ _ (lt63 a1) (lt63 b1), Int.toNat_of_nonneg a0, Int.toNat_of_nonneg b0]
theorem andNot_int {a b : Int} (a0 : 0 ≤ a) (a1 : a ≤ 9223372036854775807) (b0 : 0 ≤ b) (b1 : b ≤ 9223372036854775807) : bits .andNot .i64 a b = ((a.toNat ^^^ (a.toNat &&& b.toNat) : Nat) : Int) := by
 rw [← andNot_nat _ _ (lt63 a1) (lt63 b1), Int.toNat_of_nonneg a0, Int.toNat_of_nonneg b0]

/-- The word whose bits below m are told by p. -/
def wordOf (p : Nat → Bool) : Nat → Nat
 | 0 => 0
 | m + 1 => wordOf p m ||| (if p m then 2 ^ m else 0)

theorem wordOf_lt (p : Nat → Bool) : ∀ m, wordOf p m < 2 ^ m
 | 0 => by simp [wordOf]
 | m + 1 => by
  have h := wordOf_lt p m
  have h2 : 2 ^ m < 2 ^ (m + 1) := Nat.pow_lt_pow_right (by decide) (by omega)
  simp only [wordOf]
  refine Nat.or_lt_two_pow (by omega) ?_
  split
  ·exact h2
  ·exact Nat.two_pow_pos _

theorem testBit_wordOf (p : Nat → Bool) : ∀ m i, (wordOf p m).testBit i = (decide (i < m) && p i)
 | 0, i => by simp [wordOf]
 | m + 1, i => by
  simp only [wordOf, Nat.testBit_or, testBit_wordOf p m i]
  by_cases h : i = m
  ·subst h
   cases hp : p i <;> simp
  ·have h2 : decide (i < m + 1) = decide (i < m) := by
    by_cases h3 : i < m
    ·simp [h3]; omega
    ·have : ¬ i < m + 1 := by omega
     simp [h3, this]
   rw [h2]
   split
   ·simp [Ne.symm h]
   ·simp

theorem wordOf_congr {p q : Nat → Bool} : ∀ m, (∀ i, i < m → p i = q i) → wordOf p m = wordOf q m
 | 0, _ => rfl
 | m + 1, h => by
  simp only [wordOf]
  rw [wordOf_congr m (fun i hi => h i (by omega)), h m (by omega)]

/-- A word below 2^m is told by its bits. -/
theorem wordOf_testBit (w m : Nat) (h : w < 2 ^ m) : wordOf (fun i => w.testBit i) m = w := by
 apply Nat.eq_of_testBit_eq
 intro i
 rw [testBit_wordOf]
 by_cases hi : i < m
 ·simp [hi]
 ·have : w.testBit i = false := Nat.testBit_lt_two_pow (Nat.lt_of_lt_of_le h (Nat.pow_le_pow_right (by decide) (by omega)))
  simp [hi, this]

/-- 'w >> x & 1' of a word. -/
theorem and_one (w : Nat) : w &&& 1 = (w.testBit 0).toNat := by
 rw [Nat.and_one_is_mod, Nat.testBit_zero]
 have : w % 2 = 0 ∨ w % 2 = 1 := by omega
 rcases this with h | h <;> simp [h]

theorem shr_bit (w x : Nat) : w / 2 ^ x &&& 1 = (w.testBit x).toNat := by
 rw [and_one]
 congr 1
 rw [← Nat.shiftRight_eq_div_pow, Nat.testBit_shiftRight]
 simp

theorem fill_step {g : Nat → Int} {m i : Nat} (h : i < m) : ((List.range i).map g ++ List.replicate (m - i) 0).set i (g i) = (List.range (i + 1)).map g ++ List.replicate (m - (i + 1)) 0 := by
 obtain ⟨d, rfl⟩ : ∃ d, m = i + 1 + d := ⟨m - i - 1, by omega⟩
 rw [show i + 1 + d - i = d + 1 by omega, show i + 1 + d - (i + 1) = d by omega, List.replicate_succ, List.set_append_right _ _ (by simp), List.range_succ, List.map_append]
 simp

theorem strOfNums_append (xs ys : List Int) : strOfNums (xs ++ ys) = strOfNums xs ++ strOfNums ys := by
 apply ByteArray.ext
 simp [strOfNums, ByteArray.data_append]

/-- bit x of a word, as Go reads it -/
theorem bit_is {w x : Int} (w0 : 0 ≤ w) (w1 : w ≤ 9223372036854775807) (x0 : 0 ≤ x) (x1 : x ≤ 63) : bits .and .i64 (w / 2 ^ x.toNat) 1 = ((w.toNat.testBit x.toNat).toNat : Int) := by
 have p0 : (0 : Int) < 2 ^ x.toNat := Int.pow_pos (by decide)
 have d0 : 0 ≤ w / 2 ^ x.toNat := Int.ediv_nonneg w0 (Int.le_of_lt p0)
 have d1 : w / 2 ^ x.toNat ≤ w := Int.ediv_le_self _ w0
 rw [and_int d0 (by omega) (by decide) (by decide)]
 have e : (w / 2 ^ x.toNat).toNat = w.toNat / 2 ^ x.toNat := by
  obtain ⟨v, rfl⟩ := Int.eq_ofNat_of_zero_le w0
  have : ((v : Int) / 2 ^ x.toNat) = ((v / 2 ^ x.toNat : Nat) : Int) := by push_cast; rfl
  rw [this, Int.toNat_natCast, Int.toNat_natCast]
 rw [e, show (1 : Int).toNat = 1 from rfl, shr_bit]

theorem xor_zero {a b : Nat} : a ^^^ b = 0 ↔ a = b := by
 constructor
 ·intro h
  apply Nat.eq_of_testBit_eq
  intro i
  have q : (a ^^^ b).testBit i = false := by rw [h]; simp
  rw [Nat.testBit_xor] at q
  revert q
  cases a.testBit i <;> cases b.testBit i <;> simp
 ·rintro rfl
  exact Nat.xor_self _

theorem xor_full {w m : Nat} (h : w < 2 ^ m) : w ^^^ (2 ^ m - 1) = 2 ^ m - 1 - w := by
 apply Nat.eq_of_testBit_eq
 intro i
 have e : 2 ^ m - 1 - w = 2 ^ m - (w + 1) := by omega
 rw [e, Nat.testBit_two_pow_sub_succ h, Nat.testBit_xor, Nat.testBit_two_pow_sub_one]
 by_cases hi : i < m
 ·simp [hi]
 ·have : w.testBit i = false := Nat.testBit_lt_two_pow (Nat.lt_of_lt_of_le h (Nat.pow_le_pow_right (by decide) (by omega)))
  simp [hi, this]

end Go.Proofs.Ytijpcemcijaeeaa.Bits
