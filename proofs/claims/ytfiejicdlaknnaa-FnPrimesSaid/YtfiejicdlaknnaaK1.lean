/- Plain lemmas on Go's bit operations over whole numbers from 0 to 2^63 - 1, on words that are made bit by bit, and on shifts: no program in sight. Conditions: the bounds that stand in each. -/
import Derived.Laws.Entries
import Derived.Laws.BitsLemmas
import Derived.RowKit
import Derived.OpenShut
import Derived.Laws.BytesArg

namespace Go.Proofs.Ytfiejicdlaknnaa.Bits
set_option linter.unusedVariables false
set_option linter.unusedSimpArgs false
open Go Go.RowKit
theorem p63 : (2 : Nat) ^ 63 = 9223372036854775808 := by decide +kernel
theorem wrap_nat (n : Nat) (h : n < 2 ^ 63) : IntKind.i64.wrap (n : Int) = (n : Int) := by
 rw [IntKind.wrap_i64]
 rw [p63] at h
 omega
theorem w64 {x : Int} (h0 : -9223372036854775808 ≤ x) (h1 : x ≤ 9223372036854775807) : wrap64 x = x := by
 unfold wrap64
 omega
theorem ofInt_nat (a : Nat) (ha : a < 2 ^ 63) : (BitVec.ofInt 64 (a : Int)).toNat = a := by
 rw [BitVec.ofInt_natCast, BitVec.toNat_ofNat]
 exact Nat.mod_eq_of_lt (Nat.lt_of_lt_of_le ha (Nat.pow_le_pow_right (by decide) (by decide)))
theorem and_nat (a b : Nat) (ha : a < 2 ^ 63) (hb : b < 2 ^ 63) : bits .and .i64 (a : Int) (b : Int) = ((a &&& b : Nat) : Int) := by
 show IntKind.i64.wrap (((BitVec.ofInt 64 (a : Int) &&& BitVec.ofInt 64 (b : Int)).toNat : Nat) : Int) = _
 rw [BitVec.toNat_and, ofInt_nat a ha, ofInt_nat b hb]
 exact wrap_nat _ (Nat.and_lt_two_pow _ hb)
theorem or_nat (a b : Nat) (ha : a < 2 ^ 63) (hb : b < 2 ^ 63) : bits .or .i64 (a : Int) (b : Int) = ((a ||| b : Nat) : Int) := by
 show IntKind.i64.wrap (((BitVec.ofInt 64 (a : Int) ||| BitVec.ofInt 64 (b : Int)).toNat : Nat) : Int) = _
 rw [BitVec.toNat_or, ofInt_nat a ha, ofInt_nat b hb]
 exact wrap_nat _ (Nat.or_lt_two_pow ha hb)
theorem andNot_nat (a b : Nat) (ha : a < 2 ^ 63) (hb : b < 2 ^ 63) : bits .andNot .i64 (a : Int) (b : Int) = ((a ^^^ (a &&& b) : Nat) : Int) := by
 have e : (BitVec.ofInt 64 (a : Int) &&& ~~~ BitVec.ofInt 64 (b : Int)).toNat = a ^^^ (a &&& b) := by
  apply Nat.eq_of_testBit_eq
  intro i
  have h1 := ofInt_nat a ha
  have h2 := ofInt_nat b hb
  by_cases hi : i < 64
  ·have e1 : (BitVec.ofInt 64 (a : Int)).getLsbD i = a.testBit i := by rw [← BitVec.testBit_toNat, h1]
   have e2 : (BitVec.ofInt 64 (b : Int)).getLsbD i = b.testBit i := by rw [← BitVec.testBit_toNat, h2]
   rw [BitVec.testBit_toNat]
   simp only [BitVec.getLsbD_and, BitVec.getLsbD_not, hi, decide_true, Bool.true_and, e1, e2, Nat.testBit_xor, Nat.testBit_and]
   cases a.testBit i <;> cases b.testBit i <;> rfl
  ·have ha' : a.testBit i = false := Nat.testBit_lt_two_pow (Nat.lt_of_lt_of_le ha (Nat.pow_le_pow_right (by decide) (by omega)))
   rw [BitVec.testBit_toNat]
   rw [BitVec.getLsbD_of_ge _ _ (by omega)]
   simp [Nat.testBit_xor, Nat.testBit_and, ha']
 show IntKind.i64.wrap (((BitVec.ofInt 64 (a : Int) &&& ~~~ BitVec.ofInt 64 (b : Int)).toNat : Nat) : Int) = _
 rw [e]
 exact wrap_nat _ (Nat.xor_lt_two_pow ha (Nat.and_lt_two_pow _ hb))
theorem lt63 {a : Int} (h : a ≤ 9223372036854775807) : a.toNat < 2 ^ 63 := by
 rw [p63]
 omega
theorem and_int {a b : Int} (a0 : 0 ≤ a) (a1 : a ≤ 9223372036854775807) (b0 : 0 ≤ b) (b1 : b ≤ 9223372036854775807) : bits .and .i64 a b = ((a.toNat &&& b.toNat : Nat) : Int) := by
 rw [← and_nat _ _ (lt63 a1) (lt63 b1), Int.toNat_of_nonneg a0, Int.toNat_of_nonneg b0]
theorem andNot_int {a b : Int} (a0 : 0 ≤ a) (a1 : a ≤ 9223372036854775807) (b0 : 0 ≤ b) (b1 : b ≤ 9223372036854775807) : bits .andNot .i64 a b = ((a.toNat ^^^ (a.toNat &&& b.toNat) : Nat) : Int) := by
 rw [← andNot_nat _ _ (lt63 a1) (lt63 b1), Int.toNat_of_nonneg a0, Int.toNat_of_nonneg b0]
def wordOf (p : Nat → Bool) : Nat → Nat
 | 0 => 0
 | m + 1 => wordOf p m ||| (if p m then 2 ^ m else 0)
theorem wordOf_lt (p : Nat → Bool) : ∀ m, wordOf p m < 2 ^ m
 | 0 => by simp [wordOf]
 | m + 1 => by
  have h := wordOf_lt p m
  have h2 : 2 ^ m < 2 ^ (m + 1) := Nat.pow_lt_pow_right (by decide) (by omega)
  simp only [wordOf]
  refine Nat.or_lt_two_pow (by omega) ?_
  split
  ·exact h2
  ·exact Nat.two_pow_pos _
theorem testBit_wordOf (p : Nat → Bool) : ∀ m i, (wordOf p m).testBit i = (decide (i < m) && p i)
 | 0, i => by simp [wordOf]
 | m + 1, i => by
  simp only [wordOf, Nat.testBit_or, testBit_wordOf p m i]
  by_cases h : i = m
  ·subst h
   cases hp : p i <;> simp
  ·have h2 : decide (i < m + 1) = decide (i < m) := by
    by_cases h3 : i < m
    ·simp [h3]; omega
    ·have : ¬ i < m + 1 := by omega
     simp [h3, this]
   rw [h2]
   split
   ·simp [Ne.symm h]
   ·simp
theorem wordOf_congr {p q : Nat → Bool} : ∀ m, (∀ i, i < m → p i = q i) → wordOf p m = wordOf q m
 | 0, _ => rfl
 | m + 1, h => by
  simp only [wordOf]
  rw [wordOf_congr m (fun i hi => h i (by omega)), h m (by omega)]
theorem wordOf_testBit (w m : Nat) (h : w < 2 ^ m) : wordOf (fun i => w.testBit i) m = w := by
 apply Nat.eq_of_testBit_eq
 intro i
 rw [testBit_wordOf]
 by_cases hi : i < m
 ·simp [hi]
 ·have : w.testBit i = false := Nat.testBit_lt_two_pow (Nat.lt_of_lt_of_le h (Nat.pow_le_pow_right (by decide) (by omega)))
  simp [hi, this]
theorem and_one (w : Nat) : w &&& 1 = (w.testBit 0).toNat := by
 rw [Nat.and_one_is_mod, Nat.testBit_zero]
 have : w % 2 = 0 ∨ w % 2 = 1 := by omega
 rcases this with h | h <;> simp [h]
theorem shr_bit (w x : Nat) : w / 2 ^ x &&& 1 = (w.testBit x).toNat := by
 rw [and_one]
 congr 1
 rw [← Nat.shiftRight_eq_div_pow, Nat.testBit_shiftRight]
 simp
theorem strOfNums_append (xs ys : List Int) : strOfNums (xs ++ ys) = strOfNums xs ++ strOfNums ys := by
 apply ByteArray.ext
 simp [strOfNums, ByteArray.data_append]
theorem bit_is {w x : Int} (w0 : 0 ≤ w) (w1 : w ≤ 9223372036854775807) (x0 : 0 ≤ x) (x1 : x ≤ 63) : bits .and .i64 (w / 2 ^ x.toNat) 1 = ((w.toNat.testBit x.toNat).toNat : Int) := by
 have p0 : (0 : Int) < 2 ^ x.toNat := Int.pow_pos (by decide)
 have d0 : 0 ≤ w / 2 ^ x.toNat := Int.ediv_nonneg w0 (Int.le_of_lt p0)
 have d1 : w / 2 ^ x.toNat ≤ w := Int.ediv_le_self _ w0
 rw [and_int d0 (by omega) (by decide) (by decide)]
 have e : (w / 2 ^ x.toNat).toNat = w.toNat / 2 ^ x.toNat := by
  obtain ⟨v, rfl⟩ := Int.eq_ofNat_of_zero_le w0
  have : ((v : Int) / 2 ^ x.toNat) = ((v / 2 ^ x.toNat : Nat) : Int) := by push_cast; rfl
  rw [this, Int.toNat_natCast, Int.toNat_natCast]
 rw [e, show (1 : Int).toNat = 1 from rfl, shr_bit]
theorem xor_zero {a b : Nat} : a ^^^ b = 0 ↔ a = b := by
 constructor
 ·intro h
  apply Nat.eq_of_testBit_eq
  intro i
  have q : (a ^^^ b).testBit i = false := by rw [h]; simp
  rw [Nat.testBit_xor] at q
  revert q
  cases a.testBit i <;> cases b.testBit i <;> simp
 ·rintro rfl
  exact Nat.xor_self _
end Go.Proofs.Ytfiejicdlaknnaa.Bits

namespace Go.Proofs.Ytfiejicdlaknnaa.Min
set_option linter.unusedVariables false
set_option linter.unusedSimpArgs false
open Go.Proofs.Ytfiejicdlaknnaa.Bits
def wAt (ws : List Nat) (i : Nat) : Nat := ws.getD i 0
def cut (a b : Nat) : Nat := a ^^^ (a &&& b)
theorem bit_cut (a b i : Nat) : (cut a b).testBit i = (a.testBit i && !b.testBit i) := by
 unfold cut
 rw [Nat.testBit_xor, Nat.testBit_and]
 cases a.testBit i <;> cases b.testBit i <;> rfl
theorem zero_iff (a : Nat) : a = 0 ↔ ∀ i, a.testBit i = false := by
 constructor
 ·rintro rfl i; exact Nat.zero_testBit i
 ·intro h
  apply Nat.eq_of_testBit_eq
  intro i
  rw [h i, Nat.zero_testBit]
def G (ws : List Nat) : Nat → Nat → Nat → Nat → Option (List Nat)
 | 0, _, _, _ => none
 | d + 1, k, left, i => if wAt ws i &&& left = 0 then G ws d k left (i + 1) else
   match (if cut left (wAt ws i) = 0 then some [] else if k - 1 = 0 then none else G ws d (k - 1) (cut left (wAt ws i)) (i + 1)) with
   | some x => some (i :: x)
   | none => G ws d k left (i + 1)
def F (ws : List Nat) (d k left i : Nat) : Option (List Nat) := if left = 0 then some [] else if k = 0 then none else G ws d k left i
theorem G_succ (ws : List Nat) (d k left i : Nat) : G ws (d + 1) k left i = if wAt ws i &&& left = 0 then G ws d k left (i + 1) else
   match F ws d (k - 1) (cut left (wAt ws i)) (i + 1) with
   | some x => some (i :: x)
   | none => G ws d k left (i + 1) := rfl
def H (ws : List Nat) (W : Nat) : Nat → Nat → Nat → Nat → Option (List Nat)
 | 0, _, _, _ => none
 | d + 1, k, hv, i => if k ≤ d + 1 then (if cut (wAt ws i) hv = 0 then H ws W d k hv (i + 1) else
   match (if k - 1 = 0 then (if hv ||| wAt ws i = W then some [] else none) else H ws W d (k - 1) (hv ||| wAt ws i) (i + 1)) with
   | some x => some (i :: x)
   | none => H ws W d k hv (i + 1)) else none
def C (ws : List Nat) (W d k hv i : Nat) : Option (List Nat) := if k = 0 then (if hv = W then some [] else none) else H ws W d k hv i
theorem H_succ (ws : List Nat) (W d k hv i : Nat) : H ws W (d + 1) k hv i = if k ≤ d + 1 then (if cut (wAt ws i) hv = 0 then H ws W d k hv (i + 1) else
   match C ws W d (k - 1) (hv ||| wAt ws i) (i + 1) with
   | some x => some (i :: x)
   | none => H ws W d k hv (i + 1)) else none := rfl
def Inc (L : Nat) : Nat → List Nat → Prop
 | _, [] => True
 | i, a :: x => i ≤ a ∧ a < L ∧ Inc L (a + 1) x
def Cov (ws : List Nat) (left : Nat) (x : List Nat) : Prop := ∀ b, left.testBit b = true → ∃ a ∈ x, (wAt ws a).testBit b = true
theorem Inc.weaken {L i j : Nat} {x : List Nat} (h : Inc L i x) (hj : j ≤ i) : Inc L j x := by
 cases x with
 | nil => trivial
 | cons a x => exact ⟨by have := h.1; omega, h.2.1, h.2.2⟩
theorem Inc.length {L : Nat} : ∀ {x : List Nat} {i : Nat}, Inc L i x → x.length + i ≤ max L i
 | [], i, _ => by simp; omega
 | a :: x, i, h => by
  have := Inc.length h.2.2
  have h1 := h.1
  have h2 := h.2.1
  simp only [List.length_cons]
  omega
theorem Inc.raise {L i : Nat} {x : List Nat} (h : Inc L i x) (hx : x.head? ≠ some i) : Inc L (i + 1) x := by
 cases x with
 | nil => trivial
 | cons a x =>
  have hne : a ≠ i := fun e => hx (by simp [e])
  have h1 := h.1
  exact ⟨by omega, h.2.1, h.2.2⟩
theorem Cov.zero (ws : List Nat) (x : List Nat) : Cov ws 0 x := fun b h => by rw [Nat.zero_testBit] at h; cases h
theorem Cov.cons {ws : List Nat} {left i : Nat} {x : List Nat} (h : Cov ws (cut left (wAt ws i)) x) : Cov ws left (i :: x) := by
 intro b hb
 cases hw : (wAt ws i).testBit b
 ·obtain ⟨a, ha, hh⟩ := h b (by rw [bit_cut, hb, hw]; rfl)
  exact ⟨a, List.mem_cons_of_mem _ ha, hh⟩
 ·exact ⟨i, List.mem_cons_self, hw⟩
theorem Cov.tail {ws : List Nat} {left i : Nat} {x : List Nat} (h : Cov ws left (i :: x)) : Cov ws (cut left (wAt ws i)) x := by
 intro b hb
 rw [bit_cut, Bool.and_eq_true, Bool.not_eq_true'] at hb
 obtain ⟨a, ha, hh⟩ := h b hb.1
 rcases List.mem_cons.1 ha with rfl | ha
 ·rw [hb.2] at hh; cases hh
 ·exact ⟨a, ha, hh⟩
theorem Cov.skip {ws : List Nat} {left i : Nat} {x : List Nat} (h : Cov ws left (i :: x)) (hs : wAt ws i &&& left = 0) : Cov ws left x := by
 intro b hb
 obtain ⟨a, ha, hh⟩ := h b hb
 rcases List.mem_cons.1 ha with rfl | ha
 ·have := (zero_iff _).mp hs b
  rw [Nat.testBit_and, hh, hb] at this
  cases this
 ·exact ⟨a, ha, hh⟩
theorem G_sound (ws : List Nat) : ∀ (d k left i : Nat) (x : List Nat), 1 ≤ k → G ws d k left i = some x → Inc (i + d) i x ∧ x.length ≤ k ∧ Cov ws left x := by
 intro d
 induction d with
 | zero => intro k left i x _ h; cases h
 | succ d ih =>
  intro k left i x hk h
  rw [G_succ] at h
  have next : ∀ y, G ws d k left (i + 1) = some y → Inc (i + (d + 1)) i y ∧ y.length ≤ k ∧ Cov ws left y := by
   intro y hy
   obtain ⟨h1, h2, h3⟩ := ih k left (i + 1) y hk hy
   rw [show i + 1 + d = i + (d + 1) by omega] at h1
   exact ⟨h1.weaken (by omega), h2, h3⟩
  by_cases hs : wAt ws i &&& left = 0
  ·rw [if_pos hs] at h
   exact next x h
  ·rw [if_neg hs] at h
   cases hf : F ws d (k - 1) (cut left (wAt ws i)) (i + 1) with
   | none =>
    rw [hf] at h
    exact next x h
   | some y =>
    rw [hf] at h
    obtain rfl := Option.some.inj h
    unfold F at hf
    by_cases h0 : cut left (wAt ws i) = 0
    ·rw [if_pos h0] at hf
     obtain rfl := Option.some.inj hf
     refine ⟨⟨by omega, by omega, trivial⟩, by simp; omega, Cov.cons (by rw [h0]; exact Cov.zero _ _)⟩
    ·rw [if_neg h0] at hf
     by_cases h1 : k - 1 = 0
     ·rw [if_pos h1] at hf; cases hf
     ·rw [if_neg h1] at hf
      obtain ⟨g1, g2, g3⟩ := ih (k - 1) _ (i + 1) y (by omega) hf
      rw [show i + 1 + d = i + (d + 1) by omega] at g1
      exact ⟨⟨by omega, by omega, g1⟩, by simp; omega, Cov.cons g3⟩
theorem F_sound (ws : List Nat) {d k left i : Nat} {x : List Nat} (h : F ws d k left i = some x) : Inc (i + d) i x ∧ x.length ≤ k ∧ Cov ws left x := by
 unfold F at h
 split at h
 ·rename_i h0
  obtain rfl := Option.some.inj h
  exact ⟨trivial, by simp, by rw [h0]; exact Cov.zero _ _⟩
 ·split at h
  ·cases h
  ·exact G_sound ws d k left i x (by omega) h
theorem F_complete (ws : List Nat) : ∀ (d k left i : Nat) (x : List Nat), Inc (i + d) i x → x.length ≤ k → Cov ws left x → ∃ y, F ws d k left i = some y := by
 intro d
 induction d with
 | zero =>
  intro k left i x h1 h2 h3
  have hx : x = [] := by
   cases x with
   | nil => rfl
   | cons a x =>
    have := h1.1
    have := h1.2.1
    omega
  subst hx
  have h0 : left = 0 := (zero_iff left).mpr fun b => by
   cases hb : left.testBit b
   ·rfl
   ·obtain ⟨a, ha, _⟩ := h3 b hb
    simp at ha
  exact ⟨[], by unfold F; rw [if_pos h0]⟩
 | succ d ih =>
  intro k left i x h1 h2 h3
  by_cases h0 : left = 0
  ·exact ⟨[], by unfold F; rw [if_pos h0]⟩
  ·have hx : x ≠ [] := by
    rintro rfl
    apply h0
    refine (zero_iff left).mpr fun b => ?_
    cases hb : left.testBit b
    ·rfl
    ·obtain ⟨a, ha, _⟩ := h3 b hb
     simp at ha
   have hk : k ≠ 0 := by
    rintro rfl
    apply hx
    exact List.eq_nil_of_length_eq_zero (by omega)
   have step : ∀ {y : List Nat}, Inc (i + (d + 1)) (i + 1) y → y.length ≤ k → Cov ws left y → ∃ z, G ws d k left (i + 1) = some z := by
    intro y g1 g2 g3
    rw [show i + (d + 1) = i + 1 + d by omega] at g1
    obtain ⟨z, hz⟩ := ih k left (i + 1) y g1 g2 g3
    unfold F at hz
    rw [if_neg h0, if_neg hk] at hz
    exact ⟨z, hz⟩
   unfold F
   rw [if_neg h0, if_neg hk, G_succ]
   by_cases hh : x.head? = some i
   ·obtain ⟨t, rfl⟩ : ∃ t, x = i :: t := by
     cases x with
     | nil => exact absurd rfl hx
     | cons a t => exact ⟨t, by simp at hh; rw [hh]⟩
    by_cases hs : wAt ws i &&& left = 0
    ·rw [if_pos hs]
     exact step h1.2.2 (by simp at h2; omega) (h3.skip hs)
    ·rw [if_neg hs]
     obtain ⟨z, hz⟩ := ih (k - 1) _ (i + 1) t (by rw [show i + 1 + d = i + (d + 1) by omega]; exact h1.2.2) (by simp at h2; omega) h3.tail
     rw [hz]
     exact ⟨_, rfl⟩
   ·have g1 := h1.raise hh
    obtain ⟨z, hz⟩ := step g1 h2 h3
    by_cases hs : wAt ws i &&& left = 0
    ·rw [if_pos hs]; exact ⟨z, hz⟩
    ·rw [if_neg hs]
     cases hf : F ws d (k - 1) (cut left (wAt ws i)) (i + 1) with
     | none => exact ⟨z, hz⟩
     | some y => exact ⟨_, rfl⟩
theorem cut_or (W hv w : Nat) : cut (cut W hv) w = cut W (hv ||| w) := by
 apply Nat.eq_of_testBit_eq
 intro i
 rw [bit_cut, bit_cut, bit_cut, Nat.testBit_or]
 cases W.testBit i <;> cases hv.testBit i <;> cases w.testBit i <;> rfl
theorem skip_iff {W hv w : Nat} (hw : w &&& W = w) : w &&& cut W hv = 0 ↔ cut w hv = 0 := by
 have e : w &&& cut W hv = cut w hv := by
  apply Nat.eq_of_testBit_eq
  intro i
  have : (w &&& W).testBit i = w.testBit i := by rw [hw]
  rw [Nat.testBit_and] at this
  rw [Nat.testBit_and, bit_cut, bit_cut, ← this]
  cases W.testBit i <;> cases hv.testBit i <;> cases w.testBit i <;> rfl
 rw [e]
theorem left_zero {W hv : Nat} (hs : hv &&& W = hv) : cut W hv = 0 ↔ hv = W := by
 constructor
 ·intro h
  apply Nat.eq_of_testBit_eq
  intro i
  have h1 := (zero_iff _).mp h i
  have h2 : (hv &&& W).testBit i = hv.testBit i := by rw [hs]
  rw [Nat.testBit_and] at h2
  rw [bit_cut] at h1
  revert h1 h2
  cases W.testBit i <;> cases hv.testBit i <;> simp
 ·rintro rfl
  unfold cut
  rw [Nat.and_self, Nat.xor_self]
theorem or_sub {W hv w : Nat} (hs : hv &&& W = hv) (hw : w &&& W = w) : (hv ||| w) &&& W = hv ||| w := by
 apply Nat.eq_of_testBit_eq
 intro i
 have h1 : (hv &&& W).testBit i = hv.testBit i := by rw [hs]
 have h2 : (w &&& W).testBit i = w.testBit i := by rw [hw]
 rw [Nat.testBit_and] at h1 h2
 rw [Nat.testBit_and, Nat.testBit_or]
 revert h1 h2
 cases W.testBit i <;> cases hv.testBit i <;> cases w.testBit i <;> simp
theorem C_sound (ws : List Nat) (W : Nat) (hW : ∀ i, wAt ws i &&& W = wAt ws i) : ∀ (d k hv i : Nat) (x : List Nat), hv &&& W = hv → C ws W d k hv i = some x → Inc (i + d) i x ∧ x.length ≤ k ∧ Cov ws (cut W hv) x := by
 intro d
 induction d with
 | zero =>
  intro k hv i x hs h
  unfold C at h
  split at h
  ·split at h
   ·rename_i hh
    obtain rfl := Option.some.inj h
    refine ⟨trivial, by simp, ?_⟩
    rw [(left_zero hs).mpr hh]
    exact Cov.zero _ _
   ·cases h
  ·cases h
 | succ d ih =>
  intro k hv i x hs h
  unfold C at h
  split at h
  ·split at h
   ·rename_i hh
    obtain rfl := Option.some.inj h
    refine ⟨trivial, by simp, ?_⟩
    rw [(left_zero hs).mpr hh]
    exact Cov.zero _ _
   ·cases h
  ·rename_i hk
   have next : ∀ y, H ws W d k hv (i + 1) = some y → Inc (i + (d + 1)) i y ∧ y.length ≤ k ∧ Cov ws (cut W hv) y := by
    intro y hy
    obtain ⟨h1, h2, h3⟩ := ih k hv (i + 1) y hs (by unfold C; rw [if_neg hk]; exact hy)
    rw [show i + 1 + d = i + (d + 1) by omega] at h1
    exact ⟨h1.weaken (by omega), h2, h3⟩
   rw [H_succ] at h
   split at h
   ·split at h
    ·exact next x h
    ·cases hf : C ws W d (k - 1) (hv ||| wAt ws i) (i + 1) with
     | none => rw [hf] at h; exact next x h
     | some y =>
      rw [hf] at h
      obtain rfl := Option.some.inj h
      obtain ⟨g1, g2, g3⟩ := ih (k - 1) _ (i + 1) y (or_sub hs (hW i)) hf
      rw [show i + 1 + d = i + (d + 1) by omega] at g1
      rw [← cut_or] at g3
      exact ⟨⟨by omega, by omega, g1⟩, by simp; omega, Cov.cons g3⟩
   ·cases h
theorem same (ws : List Nat) (W : Nat) (hW : ∀ i, wAt ws i &&& W = wAt ws i) : ∀ (d k hv i : Nat), hv &&& W = hv → (∀ x, Inc (i + d) i x → x.length < k → ¬ Cov ws (cut W hv) x) → F ws d k (cut W hv) i = C ws W d k hv i := by
 intro d
 induction d with
 | zero =>
  intro k hv i hs hm
  unfold F C
  by_cases hk : k = 0
  ·rw [if_pos hk, if_pos hk]
   by_cases h0 : cut W hv = 0
   ·rw [if_pos h0, if_pos ((left_zero hs).mp h0)]
   ·rw [if_neg h0, if_neg (fun q => h0 ((left_zero hs).mpr q))]
  ·rw [if_neg hk, if_neg hk]
   have h0 : cut W hv ≠ 0 := fun q => hm [] trivial (by simp; omega) (by rw [q]; exact Cov.zero _ _)
   rw [if_neg h0]
   rfl
 | succ d ih =>
  intro k hv i hs hm
  by_cases hk : k = 0
  ·unfold F C
   rw [if_pos hk, if_pos hk]
   by_cases h0 : cut W hv = 0
   ·rw [if_pos h0, if_pos ((left_zero hs).mp h0)]
   ·rw [if_neg h0, if_neg (fun q => h0 ((left_zero hs).mpr q))]
  ·have h0 : cut W hv ≠ 0 := fun q => hm [] trivial (by simp; omega) (by rw [q]; exact Cov.zero _ _)
   have nextm : ∀ x, Inc (i + 1 + d) (i + 1) x → x.length < k → ¬ Cov ws (cut W hv) x := by
    intro x h1 h2
    rw [show i + 1 + d = i + (d + 1) by omega] at h1
    exact hm x (h1.weaken (by omega)) h2
   have next := ih k hv (i + 1) hs nextm
   have eF : F ws (d + 1) k (cut W hv) i = G ws (d + 1) k (cut W hv) i := by unfold F; rw [if_neg h0, if_neg hk]
   have eC : C ws W (d + 1) k hv i = H ws W (d + 1) k hv i := by unfold C; rw [if_neg hk]
   have eF2 : F ws d k (cut W hv) (i + 1) = G ws d k (cut W hv) (i + 1) := by unfold F; rw [if_neg h0, if_neg hk]
   have eC2 : C ws W d k hv (i + 1) = H ws W d k hv (i + 1) := by unfold C; rw [if_neg hk]
   rw [eF2, eC2] at next
   rw [eF, eC]
   by_cases hkd : k ≤ d + 1
   ·rw [G_succ, H_succ, if_pos hkd]
    by_cases hsk : wAt ws i &&& cut W hv = 0
    ·rw [if_pos hsk, if_pos ((skip_iff (hW i)).mp hsk)]
     exact next
    ·rw [if_neg hsk, if_neg (fun q => hsk ((skip_iff (hW i)).mpr q))]
     have inner := ih (k - 1) (hv ||| wAt ws i) (i + 1) (or_sub hs (hW i)) (by
      intro x h1 h2 h3
      rw [show i + 1 + d = i + (d + 1) by omega] at h1
      rw [← cut_or] at h3
      exact hm (i :: x) ⟨by omega, by omega, h1⟩ (by simp; omega) (Cov.cons h3))
     rw [cut_or, inner]
     cases C ws W d (k - 1) (hv ||| wAt ws i) (i + 1) with
     | none => exact next
     | some y => rfl
   ·have hH : H ws W (d + 1) k hv i = none := by rw [H_succ, if_neg hkd]
    rw [hH]
    cases hg : G ws (d + 1) k (cut W hv) i with
    | none => rfl
    | some x =>
     obtain ⟨g1, g2, g3⟩ := G_sound ws (d + 1) k (cut W hv) i x (by omega) hg
     have := g1.length
     exact absurd g3 (hm x g1 (by omega))
theorem nodup_len {α : Type} : ∀ (l L : List α), l.Pairwise (· ≠ ·) → (∀ x ∈ l, x ∈ L) → l.length ≤ L.length
 | [], L, _, _ => by simp
 | x :: l, L, h, hs => by
  obtain ⟨A, B, rfl⟩ := List.append_of_mem (hs x (by simp))
  rw [List.pairwise_cons] at h
  have := nodup_len l (A ++ B) h.2 (fun y hy => by
   have h1 := hs y (List.mem_cons_of_mem _ hy)
   have h2 := h.1 y hy
   simp only [List.mem_append, List.mem_cons] at h1 ⊢
   rcases h1 with h1 | h1 | h1
   ·exact Or.inl h1
   ·exact absurd h1.symm h2
   ·exact Or.inr h1)
  simp only [List.length_append, List.length_cons] at this ⊢
  omega
theorem inc_filter (p : Nat → Bool) : ∀ (d i : Nat), Inc (i + d) i ((List.range' i d).filter p)
 | 0, i => trivial
 | d + 1, i => by
  have ih := inc_filter p d (i + 1)
  rw [show i + 1 + d = i + (d + 1) by omega] at ih
  rw [List.range'_succ, List.filter_cons]
  split
  ·exact ⟨by omega, by omega, ih⟩
  ·exact ih.weaken (by omega)
end Go.Proofs.Ytfiejicdlaknnaa.Min
