/- Orders: what the reference's and the program's tests of an order come to. Conditions: the bounds that stand in each. -/
import Derived.Test.YtijpcemcijaeeaaK7
import Derived.Test.YtijpcemcijaeeaaK6
import Derived.Test.YtijpcemcijaeeaaPa
import Derived.Test.YtijpcemcijaeeaaK5
import Derived.Test.YtijpcemcijaeeaaPa0
import Derived.Test.YtijpcemcijaeeaaPa1
import Derived.Test.YtijpcemcijaeeaaPb0
import Derived.Test.YtijpcemcijaeeaaPb2
import Derived.Test.YtijpcemcijaeeaaK9
import Derived.Test.YtijpcemcijaeeaaPy0
import Derived.Test.YtijpcemcijaeeaaBits
import Derived.Test.YtijpcemcijaeeaaPb1
import Derived.Test.YtijpcemcijaeeaaPb3
import Derived.Test.YtijpcemcijaeeaaPy1

namespace Go.Proofs.Ytijpcemcijaeeaa.Per
set_option linter.unusedVariables false
set_option linter.unusedSimpArgs false
open Go Go.RowKit Go.Proofs.Ytijpcemcijaeeaa.P Go.Proofs.Ytijpcemcijaeeaa.Bits Go.Proofs.Ytijpcemcijaeeaa.Tab Go.Proofs.YtijpcemcijaeeaaW.PrintWords Go.Proofs.YtijpcemcijaeeaaW.PrintLast Go.Proofs.YtijpcemcijaeeaaW.PrintMore

theorem toInt_loop (l : List Int) (hl : l.length < 2 ^ 60) : ∀ (d i k : Nat) (x : List Int), i + d = l.length → x.length = l.length → (∀ j, j < i → x[j]? = l[j]?) → d < k → laws_toIntS.l0 k l x (i : Int) = some l := by
 intro d
 induction d with
 | zero =>
  intro i k x hi hx h hk
  obtain ⟨k, rfl⟩ : ∃ q, k = q + 1 := ⟨k - 1, by omega⟩
  simp only [laws_toIntS.l0]
  rw [if_neg (by omega)]
  congr 1
  apply List.ext_getElem?
  intro j
  by_cases hj : j < i
  ·exact h j hj
  ·rw [List.getElem?_eq_none (by omega), List.getElem?_eq_none (by omega)]
 | succ d ih =>
  intro i k x hi hx h hk
  obtain ⟨k, rfl⟩ : ∃ q, k = q + 1 := ⟨k - 1, by omega⟩
  simp only [laws_toIntS.l0]
  rw [if_pos (by omega), if_pos (by omega), if_pos (by omega), w64 (by omega) (by omega), Int.toNat_natCast]
  refine ih (i + 1) k _ (by omega) (by rw [List.length_set, hx]) ?_ (by omega)
  intro j hj
  rw [List.getElem?_set]
  by_cases e : i = j
  ·subst e
   rw [if_pos rfl, if_pos (by omega)]
   unfold rd
   rw [Int.toNat_natCast, List.getD_eq_getElem?_getD, List.getElem?_eq_getElem (by omega)]
   rfl
  ·rw [if_neg e]
   exact h j (by omega)

theorem toInt_is (l : List Int) (hl : l.length ≤ 35184372088832) {k : Nat} (hk : l.length < k) : laws_toIntS.f k l = some l := by
 unfold laws_toIntS.f
 rw [if_pos (by omega), if_pos (by omega)]
 exact toInt_loop l (by omega) l.length 0 k _ (by omega) (by simp) (fun j hj => absurd hj (by omega)) hk

/-- from place i on: in range, and unlike all before; and as many as there are variables -/
def T (l : List Int) (n : Int) (i : Nat) : Prop := (∀ a : Nat, i ≤ a → a < l.length → (0 ≤ rd l a ∧ rd l a ≤ n - 1) ∧ ∀ b : Nat, b < a → rd l b ≠ rd l a) ∧ (l.length : Int) = n

theorem perm_inner (l : List Int) (n : Int) (hl : l.length ≤ 1048576) (i : Nat) (hi : i < l.length) (hr : 0 ≤ rd l i ∧ rd l i ≤ n - 1) (K : Nat)
  (H : ∀ k, K ≤ k → ∃ r, spec_l3Perm.l0 k l n ((i : Int) + 1) = some r ∧ (r = true ↔ T l n (i + 1))) :
  ∀ (e b k : Nat), b + e = i → K + e + 1 ≤ k → (∀ c : Nat, c < b → rd l c ≠ rd l i) → ∃ r, spec_l3Perm.l1 k l n (i : Int) (b : Int) = some r ∧ (r = true ↔ T l n i) := by
 intro e
 induction e with
 | zero =>
  intro b k hb hk h
  obtain ⟨k, rfl⟩ : ∃ q, k = q + 1 := ⟨k - 1, by omega⟩
  obtain ⟨r, r1, r2⟩ := H k (by omega)
  simp only [spec_l3Perm.l1]
  rw [if_neg (by omega), w64 (by omega) (by omega)]
  refine ⟨r, r1, r2.trans ?_⟩
  constructor
  ·rintro ⟨q1, q2⟩
   refine ⟨?_, q2⟩
   intro a h1 h2
   by_cases ea : a = i
   ·subst ea
    exact ⟨hr, fun c hc => h c (by omega)⟩
   ·exact q1 a (by omega) h2
  ·rintro ⟨q1, q2⟩
   exact ⟨fun a h1 h2 => q1 a (by omega) h2, q2⟩
 | succ e ih =>
  intro b k hb hk h
  obtain ⟨k, rfl⟩ : ∃ q, k = q + 1 := ⟨k - 1, by omega⟩
  simp only [spec_l3Perm.l1]
  rw [if_pos (by omega), if_pos (by omega), if_pos (by omega), if_pos (by omega), if_pos (by omega)]
  by_cases he : rd l (b : Int) = rd l (i : Int)
  ·rw [if_pos he]
   refine ⟨false, rfl, ?_⟩
   constructor
   ·intro q; exact absurd q (by decide)
   ·rintro ⟨q1, -⟩
    exact absurd he ((q1 i (by omega) hi).2 b (by omega))
  ·rw [if_neg he, w64 (by omega) (by omega)]
   refine ih (b + 1) k (by omega) (by omega) ?_
   intro c hc
   by_cases ec : c = b
   ·subst ec; exact he
   ·exact h c (by omega)

theorem perm_outer (l : List Int) (n : Int) (hl : l.length ≤ 1048576) (hn : 0 ≤ n) (hn5 : n ≤ 5) : ∀ (d i k : Nat), i + d = l.length → d * (l.length + 3) + 1 ≤ k → ∃ r, spec_l3Perm.l0 k l n (i : Int) = some r ∧ (r = true ↔ T l n i) := by
 intro d
 induction d with
 | zero =>
  intro i k hi hk
  obtain ⟨k, rfl⟩ : ∃ q, k = q + 1 := ⟨k - 1, by omega⟩
  simp only [spec_l3Perm.l0]
  rw [if_neg (by omega)]
  refine ⟨_, rfl, ?_⟩
  rw [beq_iff_eq]
  constructor
  ·intro q
   exact ⟨fun a h1 h2 => absurd h2 (by omega), q⟩
  ·exact fun q => q.2
 | succ d ih =>
  intro i k hi hk
  obtain ⟨k, rfl⟩ : ∃ q, k = q + 1 := ⟨k - 1, by omega⟩
  rw [Nat.succ_mul] at hk
  simp only [spec_l3Perm.l0]
  rw [if_pos (by omega), if_pos (by omega), w64 (by omega) (by omega), l1In_is]
  simp only [Option.bind_some]
  by_cases hr : 0 ≤ rd l (i : Int) ∧ rd l (i : Int) ≤ n - 1
  ·rw [decide_eq_true hr]
   simp only [if_true]
   exact perm_inner l n hl i (by omega) hr (d * (l.length + 3) + 1) (fun k hk => ih (i + 1) k (by omega) hk) i 0 k (by omega) (by omega) (fun c hc => absurd hc (by omega))
  ·rw [decide_eq_false hr]
   simp only [Bool.false_eq_true, if_false]
   refine ⟨false, rfl, ?_⟩
   constructor
   ·intro q; exact absurd q (by decide)
   ·rintro ⟨q1, -⟩
    exact absurd (q1 i (by omega) (by omega)).1 hr

theorem index_loop (l : List Int) (v : Int) (hl : l.length ≤ 1048576) : ∀ (d i k : Nat), i + d = l.length → d < k → ∃ r, slices_Index_int_int.l0 k l v (l.length : Int) (i : Int) = some r ∧ (r ≥ 0 ↔ ∃ a : Nat, i ≤ a ∧ a < l.length ∧ rd l a = v) := by
 intro d
 induction d with
 | zero =>
  intro i k hi hk
  obtain ⟨k, rfl⟩ : ∃ q, k = q + 1 := ⟨k - 1, by omega⟩
  simp only [slices_Index_int_int.l0]
  rw [if_neg (by omega)]
  refine ⟨-1, rfl, ?_⟩
  constructor
  ·intro q; omega
  ·rintro ⟨a, h1, h2, -⟩; omega
 | succ d ih =>
  intro i k hi hk
  obtain ⟨k, rfl⟩ : ∃ q, k = q + 1 := ⟨k - 1, by omega⟩
  simp only [slices_Index_int_int.l0]
  rw [if_pos (by omega), if_pos (by omega), if_pos (by omega), w64 (by omega) (by omega)]
  by_cases he : v = rd l (i : Int)
  ·rw [if_pos he]
   refine ⟨_, rfl, ?_⟩
   constructor
   ·intro _; exact ⟨i, by omega, by omega, he.symm⟩
   ·intro _; omega
  ·rw [if_neg he]
   obtain ⟨r, r1, r2⟩ := ih (i + 1) k (by omega) (by omega)
   refine ⟨r, r1, r2.trans ?_⟩
   constructor
   ·rintro ⟨a, h1, h2, h3⟩; exact ⟨a, by omega, h2, h3⟩
   ·rintro ⟨a, h1, h2, h3⟩
    by_cases ea : a = i
    ·subst ea; exact absurd h3.symm he
    ·exact ⟨a, by omega, h2, h3⟩

theorem order_loop (l : List Int) (n : Nat) (hl : l.length ≤ 1048576) (hn : n ≤ 5) : ∀ (d i k : Nat), i + d = n → l.length + d + 2 ≤ k → ∃ r, impl_isOrder.l0 k l (n : Int) (i : Int) = some r ∧ (r = true ↔ ∀ v : Nat, i ≤ v → v < n → ∃ a : Nat, a < l.length ∧ rd l a = (v : Int)) := by
 intro d
 induction d with
 | zero =>
  intro i k hi hk
  obtain ⟨k, rfl⟩ : ∃ q, k = q + 1 := ⟨k - 1, by omega⟩
  simp only [impl_isOrder.l0]
  rw [if_neg (by omega)]
  refine ⟨true, rfl, ?_⟩
  constructor
  ·intro _ v h1 h2; omega
  ·intro _; rfl
 | succ d ih =>
  intro i k hi hk
  obtain ⟨k, rfl⟩ : ∃ q, k = q + 1 := ⟨k - 1, by omega⟩
  obtain ⟨r, r1, r2⟩ := index_loop l (i : Int) hl l.length 0 k (by omega) (by omega)
  have r1' : slices_Index_int_int.f k l (i : Int) = some r := r1
  simp only [impl_isOrder.l0, slices_Contains_int_int.f]
  rw [if_pos (by omega), r1', w64 (by omega) (by omega)]
  simp only [Option.bind_some]
  by_cases hr : r ≥ 0
  ·rw [decide_eq_true hr]
   simp only [if_true]
   obtain ⟨s, s1, s2⟩ := ih (i + 1) k (by omega) (by omega)
   refine ⟨s, s1, s2.trans ?_⟩
   constructor
   ·intro q v h1 h2
    by_cases ev : v = i
    ·subst ev
     obtain ⟨a, -, h3, h4⟩ := r2.mp hr
     exact ⟨a, h3, h4⟩
    ·exact q v (by omega) h2
   ·intro q v h1 h2; exact q v (by omega) h2
  ·rw [decide_eq_false hr]
   simp only [Bool.false_eq_true, if_false]
   refine ⟨false, rfl, ?_⟩
   constructor
   ·intro q; exact absurd q (by decide)
   ·intro q
    obtain ⟨a, h1, h2⟩ := q i (by omega) (by omega)
    exact absurd (r2.mpr ⟨a, by omega, h1, h2⟩) hr
end Go.Proofs.Ytijpcemcijaeeaa.Per

namespace Go.Proofs.Ytijpcemcijaeeaa.Tab
set_option linter.unusedVariables false
set_option linter.unusedSimpArgs false
open Go Go.RowKit Go.Proofs.Ytijpcemcijaeeaa.P Go.Proofs.Ytijpcemcijaeeaa.Bits Go.Proofs.YtijpcemcijaeeaaW.PrintWords Go.Proofs.YtijpcemcijaeeaaW.PrintLast Go.Proofs.YtijpcemcijaeeaaW.PrintMore

/-! variables -/
theorem variable_loop (n i : Nat) (hn : n ≤ 5) (hi : i ≤ 5) : ∀ (d j k : Nat), j + d = 2 ^ n → d < k →
  spec_l2Variable.l0 k (n : Int) (i : Int) ((wordOf (fun x => x.testBit i) j : Nat) : Int) (j : Int) = some ((wordOf (fun x => x.testBit i) (2 ^ n) : Nat) : Int) := by
 have h32 := pow_le_32 hn
 intro d
 induction d with
 | zero =>
  intro j k hj hk
  obtain ⟨k, rfl⟩ : ∃ q, k = q + 1 := ⟨k - 1, by omega⟩
  obtain rfl : j = 2 ^ n := by omega
  simp only [spec_l2Variable.l0]
  rw [if_pos (by omega), shl_two_nat hn, if_neg (by omega)]
 | succ d ih =>
  intro j k hj hk
  obtain ⟨k, rfl⟩ : ∃ q, k = q + 1 := ⟨k - 1, by omega⟩
  simp only [spec_l2Variable.l0]
  rw [if_pos (by omega), shl_two_nat hn, if_pos (by omega), if_pos (by omega), shr_is (by omega), bit_is (by omega) (by omega) (by omega) (by omega), Int.toNat_natCast, Int.toNat_natCast, w64 (by omega) (by omega)]
  have ih' := ih (j + 1) k (by omega) (by omega)
  rw [show ((j + 1 : Nat) : Int) = (j : Int) + 1 from by omega] at ih'
  have o := or_word (fun x => x.testBit i) (i := j) (by omega)
  cases hb : j.testBit i
  ·rw [if_neg (by simp)]
   simp only [wordOf, hb] at ih'
   simpa using ih'
  ·rw [if_pos (by simp), if_pos (by omega)]
   simp only [hb] at o
   rw [show (((true : Bool).toNat : Nat) : Int) = 1 from rfl] at o
   rw [o]
   exact ih'

/-! restrictions -/
def chkInsert (x i b : Nat) : Bool := spec_l3Insert.f (x : Int) (i : Int) (b : Int) == some ((spreadN x i b : Nat) : Int)
theorem chkInsert_all : ∀ (x : Fin 32) (i : Fin 6) (b : Fin 2), chkInsert x.val i.val b.val = true := by decide +kernel
theorem insert_is {x i b : Nat} (hx : x < 32) (hi : i ≤ 5) (hb : b ≤ 1) : spec_l3Insert.f (x : Int) (i : Int) (b : Int) = some ((spreadN x i b : Nat) : Int) :=
 eq_of_beq (chkInsert_all ⟨x, hx⟩ ⟨i, by omega⟩ ⟨b, by omega⟩)

def resW (w i b : Int) (n : Nat) : Nat := wordOf (fun x => w.toNat.testBit (spreadN x i.toNat b.toNat)) (2 ^ n)

theorem restrict_loop (n i b : Nat) (w : Int) (hn : n ≤ 4) (hi : i ≤ 5) (hb : b ≤ 1) (w0 : 0 ≤ w) (w1 : w ≤ 4294967296) : ∀ (d j k : Nat), j + d = 2 ^ n → d < k →
  spec_l3Restrict.l0 k (i : Int) (b : Int) ((wordOf (fun x => w.toNat.testBit (spreadN x i b)) j : Nat) : Int) (j : Int) ((n : Int) + 1) w = some ((n : Int), ((wordOf (fun x => w.toNat.testBit (spreadN x i b)) (2 ^ n) : Nat) : Int)) := by
 have h32 := pow_le_32 (show n ≤ 5 by omega)
 have e1 : wrap64 ((n : Int) + 1 - 1) = (n : Int) := by rw [w64 (by omega) (by omega)]; omega
 intro d
 induction d with
 | zero =>
  intro j k hj hk
  obtain ⟨k, rfl⟩ : ∃ q, k = q + 1 := ⟨k - 1, by omega⟩
  obtain rfl : j = 2 ^ n := by omega
  simp only [spec_l3Restrict.l0]
  rw [e1, if_pos (by omega), shl_two_nat (by omega), if_neg (by omega)]
 | succ d ih =>
  intro j k hj hk
  obtain ⟨k, rfl⟩ : ∃ q, k = q + 1 := ⟨k - 1, by omega⟩
  have hs := spreadN_lt j i b (by omega) hi hb
  simp only [spec_l3Restrict.l0]
  rw [e1, if_pos (by omega), shl_two_nat (by omega), if_pos (by omega), insert_is (by omega) hi hb]
  simp only [Option.bind_some]
  rw [if_pos (by omega), if_pos (by omega), shr_is (by omega), bit_is w0 (by omega) (by omega) (by omega), Int.toNat_natCast, w64 (by omega) (by omega)]
  have ih' := ih (j + 1) k (by omega) (by omega)
  rw [show ((j + 1 : Nat) : Int) = (j : Int) + 1 from by omega] at ih'
  rw [← or_word (fun x => w.toNat.testBit (spreadN x i b)) (i := j) (by omega)] at ih'
  exact ih'

theorem restrict_spec {n w i b : Int} (n1 : 1 ≤ n) (n5 : n ≤ 5) (w0 : 0 ≤ w) (w1 : w ≤ 4294967296) (i0 : 0 ≤ i) (i5 : i ≤ 5) (b0 : 0 ≤ b) (b1 : b ≤ 1) {k : Nat} (hk : 16 < k) :
  spec_l3Restrict.f k n w i b = some (n - 1, ((resW w i b (n - 1).toNat : Nat) : Int)) := by
 obtain ⟨N, hN⟩ := Int.eq_ofNat_of_zero_le (show 0 ≤ n - 1 by omega)
 obtain ⟨I, rfl⟩ := Int.eq_ofNat_of_zero_le i0
 obtain ⟨B, rfl⟩ := Int.eq_ofNat_of_zero_le b0
 obtain rfl : n = (N : Int) + 1 := by omega
 have h16 : 2 ^ N ≤ 16 := by
  have := Nat.pow_le_pow_right (show 0 < 2 by decide) (show N ≤ 4 by omega)
  omega
 have h := restrict_loop N I B w (by omega) (by omega) (by omega) w0 w1 (2 ^ N) 0 k (by omega) (by omega)
 unfold spec_l3Restrict.f resW
 rw [hN, Int.toNat_natCast, Int.toNat_natCast, Int.toNat_natCast]
 exact h

theorem restrict_impl {n w i b : Int} (n1 : 1 ≤ n) (n5 : n ≤ 5) (w0 : 0 ≤ w) (w1 : w ≤ 4294967296) (i0 : 0 ≤ i) (i5 : i ≤ 5) (b0 : 0 ≤ b) (b1 : b ≤ 1) :
  impl_Table_restrict.f n w i b = some (n - 1, ((resW w i b (n - 1).toNat : Nat) : Int)) := by
 unfold impl_Table_restrict.f resW
 rw [if_pos ⟨n1, n5, w0, w1, i0, i5, b0, b1⟩]

theorem resW_lt (w i b : Int) {n : Nat} (hn : n ≤ 4) : resW w i b n < lim (n : Int) := by
 have h := wordOf_lt (fun x => w.toNat.testBit (spreadN x i.toNat b.toNat)) (2 ^ n)
 have e := lim_two (n := (n : Int)) (by omega) (by omega)
 rw [two_nat (by omega), Int.toNat_natCast] at e
 rw [e]
 unfold resW
 exact_mod_cast h

/-! whether a table depends on a variable -/
def depB (n w i : Int) : Bool := resW w i 0 (n - 1).toNat != resW w i 1 (n - 1).toNat

theorem depends_spec {n w i : Int} (n1 : 1 ≤ n) (n5 : n ≤ 5) (w0 : 0 ≤ w) (w1 : w ≤ 4294967296) (i0 : 0 ≤ i) (i5 : i ≤ 5) {k : Nat} (hk : 16 < k) : spec_l3Depends.f k n w i = some (depB n w i) := by
 unfold spec_l3Depends.f
 rw [restrict_spec n1 n5 w0 w1 i0 i5 (by decide) (by decide) hk]
 simp only [Option.bind_some]
 rw [restrict_spec n1 n5 w0 w1 i0 i5 (by decide) (by decide) hk]
 simp only [Option.bind_some, depB]
 congr 1
 rw [Bool.eq_iff_iff]
 simp only [bne_iff_ne, ne_eq]
 omega

theorem depends_impl {n w i : Int} (n1 : 1 ≤ n) (n5 : n ≤ 5) (w0 : 0 ≤ w) (w1 : w ≤ 4294967296) (i0 : 0 ≤ i) (i5 : i ≤ 5) : impl_Table_depends.f n w i = some (depB n w i) := by
 unfold impl_Table_depends.f
 rw [restrict_impl n1 n5 w0 w1 i0 i5 (by decide) (by decide)]
 simp only [Option.bind_some]
 rw [restrict_impl n1 n5 w0 w1 i0 i5 (by decide) (by decide)]
 simp only [Option.bind_some, depB, beq_self_eq_true, Bool.not_true, Bool.false_or]
 congr 1
 rw [Bool.eq_iff_iff]
 simp only [bne_iff_ne, ne_eq, Bool.not_eq_true', beq_eq_false_iff_ne]
 omega

theorem hasVariable_is (n w i : Int) : impl_hasVariable.f n w i = some (isT n w && decide (0 ≤ i ∧ i < n)) := by
 unfold impl_hasVariable.f
 rw [impl_IsTable_is]
 cases isT n w
 ·rfl
 ·simp only [Option.bind_some, if_true, Bool.true_and]
  by_cases h : i ≥ 0
  ·rw [if_pos h]; simp [h]
  ·rw [if_neg h]; simp [h]
end Go.Proofs.Ytijpcemcijaeeaa.Tab

namespace Go.Proofs.Ytijpcemcijaeeaa.Rf
set_option linter.unusedVariables false
set_option linter.unusedSimpArgs false
open Go Go.RowKit Go.Proofs.Ytijpcemcijaeeaa.P Go.Proofs.Ytijpcemcijaeeaa.Bits Go.Proofs.Ytijpcemcijaeeaa.Tab Go.Proofs.YtijpcemcijaeeaaW.PrintWords Go.Proofs.YtijpcemcijaeeaaW.PrintLast Go.Proofs.YtijpcemcijaeeaaW.PrintMore

/-- x without the bit at place i. -/
def lowN (x i : Nat) : Nat := x / 2 ^ (i + 1) * 2 ^ i + x % 2 ^ i

theorem low_same : ∀ N : Fin 5, ∀ i : Fin (N.val + 1), ∀ x : Fin (2 ^ (N.val + 1)), spreadN (lowN x.val i.val) i.val (x.val.testBit i.val).toNat = x.val ∧ lowN x.val i.val < 2 ^ N.val := by decide +kernel
theorem low_is {N i x : Nat} (hN : N ≤ 4) (hi : i ≤ N) (hx : x < 2 ^ (N + 1)) : spreadN (lowN x i) i (x.testBit i).toNat = x ∧ lowN x i < 2 ^ N := low_same ⟨N, by omega⟩ ⟨i, by show i < N + 1; omega⟩ ⟨x, hx⟩
theorem spread_same : ∀ N : Fin 5, ∀ i : Fin (N.val + 1), ∀ x : Fin (2 ^ N.val), ∀ b : Fin 2, lowN (spreadN x.val i.val b.val) i.val = x.val ∧ ((spreadN x.val i.val b.val).testBit i.val).toNat = b.val ∧ spreadN x.val i.val b.val < 2 ^ (N.val + 1) := by decide +kernel
theorem spread_low {N i x b : Nat} (hN : N ≤ 4) (hi : i ≤ N) (hx : x < 2 ^ N) (hb : b ≤ 1) : lowN (spreadN x i b) i = x ∧ ((spreadN x i b).testBit i).toNat = b ∧ spreadN x i b < 2 ^ (N + 1) := spread_same ⟨N, by omega⟩ ⟨i, by show i < N + 1; omega⟩ ⟨x, hx⟩ ⟨b, by omega⟩

/-- The word that holds the bits of w at the places below j. -/
def upTo (w i N j : Nat) : Nat := wordOf (fun p => decide (lowN p i < j) && w.testBit p) (2 ^ (N + 1))
theorem pow16 {N : Nat} (hN : N ≤ 4) : 2 ^ N ≤ 16 ∧ 2 ^ (N + 1) = 2 * 2 ^ N := by
 have := Nat.pow_le_pow_right (show 0 < 2 by decide) hN
 exact ⟨by omega, by rw [Nat.pow_succ]; omega⟩
theorem upTo_lt (w i N j : Nat) (hN : N ≤ 4) : upTo w i N j < 2 ^ 32 := by
 have h := pow16 hN
 exact Nat.lt_of_lt_of_le (wordOf_lt _ _) (Nat.pow_le_pow_right (by decide) (by omega))
theorem upTo_zero (w i N : Nat) : upTo w i N 0 = 0 := by
 apply Nat.eq_of_testBit_eq
 intro p
 rw [upTo, testBit_wordOf]
 simp
theorem upTo_all (w i N : Nat) (hN : N ≤ 4) (hi : i ≤ N) (hw : w < 2 ^ 2 ^ (N + 1)) : upTo w i N (2 ^ N) = w := by
 apply Nat.eq_of_testBit_eq
 intro p
 rw [upTo, testBit_wordOf]
 by_cases hp : p < 2 ^ (N + 1)
 ·rw [decide_eq_true hp, decide_eq_true (low_is hN hi hp).2]
  simp
 ·rw [decide_eq_false hp, Nat.testBit_lt_two_pow (Nat.lt_of_lt_of_le hw (Nat.pow_le_pow_right (by decide) (by omega)))]
  simp
theorem one_bit (b : Bool) (q p : Nat) : (if b then 2 ^ q else 0 : Nat).testBit p = (decide (p = q) && b) := by
 cases b
 ·simp
 ·simp only [if_true, Nat.testBit_two_pow, Bool.and_true, decide_eq_decide]
  exact ⟨fun h => h.symm, fun h => h.symm⟩
theorem upTo_step (w i N j : Nat) (hN : N ≤ 4) (hi : i ≤ N) (hj : j < 2 ^ N) :
  upTo w i N j ||| ((if w.testBit (spreadN j i 0) then 2 ^ (spreadN j i 0) else 0) ||| (if w.testBit (spreadN j i 1) then 2 ^ (spreadN j i 1) else 0)) = upTo w i N (j + 1) := by
 obtain ⟨a0, a1, a2⟩ := spread_low hN hi hj (show 0 ≤ 1 by omega)
 obtain ⟨b0, b1, b2⟩ := spread_low hN hi hj (show 1 ≤ 1 by omega)
 apply Nat.eq_of_testBit_eq
 intro p
 rw [Nat.testBit_or, Nat.testBit_or, one_bit, one_bit, upTo, upTo, testBit_wordOf, testBit_wordOf, Bool.eq_iff_iff]
 simp only [Bool.or_eq_true, Bool.and_eq_true, decide_eq_true_eq]
 constructor
 ·rintro (⟨a, b, c⟩ | ⟨rfl, c⟩ | ⟨rfl, c⟩)
  ·exact ⟨a, by omega, c⟩
  ·exact ⟨a2, by omega, c⟩
  ·exact ⟨b2, by omega, c⟩
 ·rintro ⟨a, b, c⟩
  by_cases e : lowN p i = j
  ·have h := (low_is hN hi a).1
   rw [e] at h
   cases hb : p.testBit i
   ·rw [hb] at h
    have h' : spreadN j i 0 = p := h
    exact Or.inr (Or.inl ⟨h'.symm, by rw [h']; exact c⟩)
   ·rw [hb] at h
    have h' : spreadN j i 1 = p := h
    exact Or.inr (Or.inr ⟨h'.symm, by rw [h']; exact c⟩)
  ·exact Or.inl ⟨a, by omega, c⟩

theorem spread31_all : ∀ (x : Fin 16) (i : Fin 5) (b : Fin 2), spreadN x.val i.val b.val < 32 := by decide +kernel
theorem spread31 {x i b : Nat} (hx : x < 16) (hi : i ≤ 4) (hb : b ≤ 1) : spreadN x i b < 32 := spread31_all ⟨x, hx⟩ ⟨i, by omega⟩ ⟨b, by omega⟩
theorem bit32 (b : Bool) {i : Nat} (hi : i < 32) : (if b then 2 ^ i else 0 : Nat) < 2 ^ 32 := by
 cases b
 ·show (0 : Nat) < 2 ^ 32; decide
 ·exact Nat.pow_lt_pow_right (by decide) hi

/-- The two restrictions of a word. -/
def resN (w i b N : Nat) : Nat := wordOf (fun x => w.testBit (spreadN x i b)) (2 ^ N)
theorem resN_bit (w i b N x : Nat) (hx : x < 2 ^ N) : (resN w i b N).testBit x = w.testBit (spreadN x i b) := by
 rw [resN, testBit_wordOf, decide_eq_true hx, Bool.true_and]
theorem resN_lt (w i b N : Nat) : resN w i b N < 2 ^ 2 ^ N := wordOf_lt _ _
theorem resN_32 (w i b N : Nat) (hN : N ≤ 4) : resN w i b N < 2 ^ 16 := Nat.lt_of_lt_of_le (resN_lt w i b N) (Nat.pow_le_pow_right (by decide) (pow16 hN).1)

theorem join_back (w i N : Nat) (hN : N ≤ 4) (hi : i ≤ N) (hw : w < 2 ^ 2 ^ (N + 1)) : ∀ (d j k : Nat), j + d = 2 ^ N → d < k →
  impl_JoinTables.l0 k (i : Int) ((2 ^ N : Nat) : Int) (j : Int) (N : Int) (resN w i 0 N : Int) (N : Int) (resN w i 1 N : Int) ((N : Int) + 1) (upTo w i N j : Int) = some ((N : Int) + 1, (w : Int), true) := by
 have h16 := (pow16 hN).1
 have r0 := resN_32 w i 0 N hN
 have r1 := resN_32 w i 1 N hN
 have q16 : (2 : Nat) ^ 16 = 65536 := by decide
 intro d
 induction d with
 | zero =>
  intro j k hj hk
  obtain ⟨k, rfl⟩ : ∃ q, k = q + 1 := ⟨k - 1, by omega⟩
  obtain rfl : j = 2 ^ N := by omega
  simp only [impl_JoinTables.l0]
  rw [if_neg (by omega), upTo_all w i N hN hi hw]
 | succ d ih =>
  intro j k hj hk
  obtain ⟨k, rfl⟩ : ∃ q, k = q + 1 := ⟨k - 1, by omega⟩
  have s0 := spread31 (show j < 16 by omega) (show i ≤ 4 by omega) (show 0 ≤ 1 by omega)
  have s1 := spread31 (show j < 16 by omega) (show i ≤ 4 by omega) (show 1 ≤ 1 by omega)
  have p0 := spread_is j i 0 (by omega) (by omega) (by omega)
  have p1 := spread_is j i 1 (by omega) (by omega) (by omega)
  have b0 := bit32 (w.testBit (spreadN j i 0)) s0
  have b1 := bit32 (w.testBit (spreadN j i 1)) s1
  have q : (2 : Nat) ^ 32 ≤ 2 ^ 63 := by decide
  have hA := upTo_lt w i N j hN
  have hB := Nat.or_lt_two_pow b0 b1
  have o3 : bits .or .i64 (shl .i64 (((w.testBit (spreadN j i 0)).toNat : Nat) : Int) ((spreadN j i 0 : Nat) : Int)) (shl .i64 (((w.testBit (spreadN j i 1)).toNat : Nat) : Int) ((spreadN j i 1 : Nat) : Int)) = (((if w.testBit (spreadN j i 0) then 2 ^ (spreadN j i 0) else 0) ||| (if w.testBit (spreadN j i 1) then 2 ^ (spreadN j i 1) else 0) : Nat) : Int) := by
   rw [shl_bit _ (by omega), shl_bit _ (by omega)]
   exact or_nat _ _ (by omega) (by omega)
  have o4 := or_nat (upTo w i N j) ((if w.testBit (spreadN j i 0) then 2 ^ (spreadN j i 0) else 0) ||| (if w.testBit (spreadN j i 1) then 2 ^ (spreadN j i 1) else 0)) (by omega) (by omega)
  rw [upTo_step w i N j hN hi (by omega)] at o4
  simp only [impl_JoinTables.l0]
  rw [if_pos (by omega)]
  rw [at_is (by omega) (by omega) (by omega) (by omega), at_is (by omega) (by omega) (by omega) (by omega)]
  simp only [Int.toNat_natCast]
  rw [show ((0 : Nat) : Int) = 0 from rfl] at p0
  rw [show ((1 : Nat) : Int) = 1 from rfl] at p1
  rw [p0, p1, resN_bit w i 0 N j (by omega), resN_bit w i 1 N j (by omega)]
  simp only [Option.bind_some]
  rw [if_pos (by omega), if_pos (by omega), o3, o4, w64 (by omega) (by omega)]
  exact ih (j + 1) k (by omega) (by omega)

theorem lim_succ {N : Nat} (hN : N ≤ 4) : lim ((N : Int) + 1) = ((2 ^ 2 ^ (N + 1) : Nat) : Int) := by
 have e := lim_two (n := (N : Int) + 1) (by omega) (by omega)
 rw [show (N : Int) + 1 = ((N + 1 : Nat) : Int) by omega, two_nat (by omega), Int.toNat_natCast] at e
 rw [show (N : Int) + 1 = ((N + 1 : Nat) : Int) by omega, e]
 norm_cast
theorem resN_isT (w i b N : Nat) (hN : N ≤ 4) : isT (N : Int) (resN w i b N : Int) = true := by
 have h := resW_lt (w : Int) (i : Int) (b : Int) hN
 exact isT_of ⟨by omega, by omega, by omega, h⟩
theorem join_is (w i N : Nat) (hN : N ≤ 4) (hi : i ≤ N) (hw : w < 2 ^ 2 ^ (N + 1)) (K : Nat) (hK : 40 ≤ K) :
  impl_JoinTables.f K (N : Int) (resN w i 0 N : Int) (N : Int) (resN w i 1 N : Int) (i : Int) = some ((N : Int) + 1, (w : Int), true) := by
 obtain ⟨K, rfl⟩ : ∃ q, K = q + 1 := ⟨K - 1, by omega⟩
 have h16 := (pow16 hN).1
 unfold impl_JoinTables.f impl_areTables.f
 simp only [Option.bind_some, impl_IsTable_is, resN_isT _ _ _ _ hN, if_true, beq_self_eq_true]
 rw [if_neg (by omega), if_neg (by omega), decide_eq_false (by omega)]
 simp only [impl_JoinTables.j0, Bool.false_eq_true, if_false]
 rw [size_is (by omega) (by omega), two_nat (by omega), w64 (by omega) (by omega)]
 have h := join_back w i N hN hi hw (2 ^ N) 0 K (by omega) (by omega)
 rw [upTo_zero] at h
 exact h

/-! cubes of one variable -/
theorem seen_iff (w m v : Nat) (b : Bool) : ∀ M, seenB w m v b M = true ↔ ∃ j, j < M ∧ j &&& m = v ∧ w.testBit j = b := by
 intro M
 induction M with
 | zero => simp [seenB]
 | succ M ih =>
  simp only [seenB, Bool.or_eq_true, ih, Bool.and_eq_true, decide_eq_true_eq, beq_iff_eq]
  constructor
  ·rintro (⟨j, a, c⟩ | ⟨c, e⟩)
   ·exact ⟨j, by omega, c⟩
   ·exact ⟨M, by omega, c, e⟩
  ·rintro ⟨j, a, c, e⟩
   by_cases h : j = M
   ·subst h; exact Or.inr ⟨c, e⟩
   ·exact Or.inl ⟨j, by omega, c, e⟩
theorem mask_all : ∀ N : Fin 5, ∀ i : Fin (N.val + 1), ∀ x : Fin (2 ^ (N.val + 1)), ∀ b : Fin 2, (x.val &&& 2 ^ i.val = b.val * 2 ^ i.val ↔ (x.val.testBit i.val).toNat = b.val) := by decide +kernel
theorem mask_is {N i x b : Nat} (hN : N ≤ 4) (hi : i ≤ N) (hx : x < 2 ^ (N + 1)) (hb : b ≤ 1) : x &&& 2 ^ i = b * 2 ^ i ↔ (x.testBit i).toNat = b := mask_all ⟨N, by omega⟩ ⟨i, by show i < N + 1; omega⟩ ⟨x, hx⟩ ⟨b, by omega⟩
theorem seen_res (w i b N : Nat) (c : Bool) (hN : N ≤ 4) (hi : i ≤ N) (hb : b ≤ 1) : seenB w (2 ^ i) (b * 2 ^ i) c (2 ^ (N + 1)) = true ↔ ∃ x, x < 2 ^ N ∧ (resN w i b N).testBit x = c := by
 rw [seen_iff]
 constructor
 ·rintro ⟨j, a, e, f⟩
  have hm := (mask_is hN hi a hb).1 e
  obtain ⟨l1, l2⟩ := low_is hN hi a
  rw [hm] at l1
  exact ⟨lowN j i, l2, by rw [resN_bit _ _ _ _ _ l2, l1]; exact f⟩
 ·rintro ⟨x, a, e⟩
  obtain ⟨a0, a1, a2⟩ := spread_low hN hi a hb
  exact ⟨spreadN x i b, a2, (mask_is hN hi a2 hb).2 a1, by rw [resN_bit _ _ _ _ _ a] at e; exact e⟩
theorem none_zero (r M : Nat) (hr : r < 2 ^ M) : (∃ x, x < M ∧ r.testBit x = true) ↔ r ≠ 0 := by
 constructor
 ·rintro ⟨x, _, h⟩ rfl
  simp at h
 ·intro h
  obtain ⟨x, hx⟩ := Nat.exists_testBit_of_ne_zero h
  refine ⟨x, ?_, hx⟩
  by_cases hl : x < M
  ·exact hl
  ·rw [Nat.testBit_lt_two_pow (Nat.lt_of_lt_of_le hr (Nat.pow_le_pow_right (by decide) (by omega)))] at hx
   exact absurd hx (by decide)
theorem none_full (r M : Nat) (hr : r < 2 ^ M) : (∃ x, x < M ∧ r.testBit x = false) ↔ r ≠ 2 ^ M - 1 := by
 constructor
 ·rintro ⟨x, hx, h⟩ rfl
  rw [Nat.testBit_two_pow_sub_one, decide_eq_true hx] at h
  exact absurd h (by decide)
 ·intro h
  refine Classical.byContradiction fun q => h ?_
  apply Nat.eq_of_testBit_eq
  intro x
  rw [Nat.testBit_two_pow_sub_one]
  by_cases hx : x < M
  ·rw [decide_eq_true hx]
   cases e : r.testBit x
   ·exact absurd ⟨x, hx, e⟩ q
   ·rfl
  ·rw [decide_eq_false hx]
   exact Nat.testBit_lt_two_pow (Nat.lt_of_lt_of_le hr (Nat.pow_le_pow_right (by decide) (by omega)))
/-- The value of a constant, or 2. -/
def cubeN (r N : Nat) : Int := if r = 0 then 0 else if r = 2 ^ 2 ^ N - 1 then 1 else 2
theorem cube_res (w i b N : Nat) (hN : N ≤ 4) (hi : i ≤ N) (hb : b ≤ 1) : cubeV w (2 ^ i) (b * 2 ^ i) (2 ^ (N + 1)) = cubeN (resN w i b N) N := by
 have t := (seen_res w i b N true hN hi hb).trans (none_zero _ _ (resN_lt w i b N))
 have f := (seen_res w i b N false hN hi hb).trans (none_full _ _ (resN_lt w i b N))
 have p : 0 < 2 ^ 2 ^ N := Nat.pow_pos (by decide)
 have p2 : 2 ≤ 2 ^ 2 ^ N := by
  have : 1 ≤ 2 ^ N := Nat.one_le_two_pow
  have := Nat.pow_le_pow_right (show 0 < 2 by decide) this
  omega
 unfold cubeV cubeN
 cases ht : seenB w (2 ^ i) (b * 2 ^ i) true (2 ^ (N + 1)) <;> cases hf : seenB w (2 ^ i) (b * 2 ^ i) false (2 ^ (N + 1)) <;> rw [ht] at t <;> rw [hf] at f <;> simp only [Bool.false_eq_true, false_iff, true_iff, ne_eq, Classical.not_not] at t f
 ·omega
 ·rw [if_pos t]; rfl
 ·rw [if_neg t, if_pos f]; rfl
 ·rw [if_neg t, if_neg f]; rfl
theorem cubeV_is (w i b N : Nat) (hN : N ≤ 4) (hi : i ≤ N) (hb : b ≤ 1) (hw : w < 2 ^ 2 ^ (N + 1)) :
  impl_CubeValue.f ((N : Int) + 1) (w : Int) (shl .i64 1 (i : Int)) (shl .i64 (b : Int) (i : Int)) = some (cubeN (resN w i b N) N) := by
 have e1 := shl_one_nat (i := i) (by omega)
 have e2 : shl .i64 (b : Int) (i : Int) = ((b * 2 ^ i : Nat) : Int) := by
  obtain rfl | rfl : b = 0 ∨ b = 1 := by omega
  ·rw [Nat.zero_mul]; exact shl_zero_nat i
  ·rw [Nat.one_mul]; exact e1
 have hpi : 2 ^ i ≤ 2 ^ N := Nat.pow_le_pow_right (by decide) hi
 have h16 := pow16 hN
 have hbi : b * 2 ^ i ≤ 2 ^ i := by
  obtain rfl | rfl : b = 0 ∨ b = 1 := by omega
  ·rw [Nat.zero_mul]; exact Nat.zero_le _
  ·rw [Nat.one_mul]; exact Nat.le_refl _
 have hpN : 0 < 2 ^ N := Nat.pow_pos (by decide)
 have hl := lim_succ hN
 have hle := lim_le ((N : Int) + 1)
 have hz : (b * 2 ^ i) ^^^ ((b * 2 ^ i) &&& 2 ^ i) = 0 := by
  obtain rfl | rfl : b = 0 ∨ b = 1 := by omega
  ·simp
  ·rw [Nat.one_mul, Nat.and_self, Nat.xor_self]
 rw [e1, e2]
 unfold impl_CubeValue.f impl_isCube.f impl_hasInput.f
 simp only [Option.bind_some, impl_IsTable_is]
 rw [isT_of ⟨by omega, by omega, by omega, by rw [hl]; exact_mod_cast hw⟩]
 simp only [if_true]
 rw [impl_isInput_is (by omega) (by omega), show (N : Int) + 1 = ((N + 1 : Nat) : Int) by omega, two_nat (by omega)]
 rw [decide_eq_true (show 0 ≤ ((2 ^ i : Nat) : Int) ∧ ((2 ^ i : Nat) : Int) < ((2 ^ (N + 1) : Nat) : Int) by omega)]
 simp only [Option.bind_some, if_true]
 rw [if_pos (by omega), andNot_int (by omega) (by omega) (by omega) (by omega), Int.toNat_natCast, Int.toNat_natCast, hz]
 simp only [Option.bind_some]
 rw [if_pos (by rfl)]
 unfold impl_Table_cube.f
 rw [if_pos (by omega), Int.toNat_natCast, Int.toNat_natCast, Int.toNat_natCast, Int.toNat_natCast, cube_res w i b N hN hi hb]
 rfl

/-! what the law asks at a table, a variable and a bit -/
theorem resW_resN (w i b N : Nat) : resW (w : Int) (i : Int) (b : Int) ((N : Int) + 1 - 1).toNat = resN w i b N := by
 unfold resW resN
 rw [show ((N : Int) + 1 - 1).toNat = N by omega, Int.toNat_natCast, Int.toNat_natCast, Int.toNat_natCast]
theorem restrict_law (n w i b : Int) (K : Nat) (hK : 40 ≤ K) : ∃ g0 g1 is, impl_RestrictTable.f n w i b = some (g0, g1, is) ∧ spec_RestrictTable.f K n w i b = some (g0, g1, is) ∧
  (is = false ∨ (is = true ∧ 0 ≤ i ∧ ∃ N W I B : Nat, N ≤ 4 ∧ I ≤ N ∧ B ≤ 1 ∧ W < 2 ^ 2 ^ (N + 1) ∧ n = (N : Int) + 1 ∧ w = (W : Int) ∧ i = (I : Int) ∧ b = (B : Int) ∧ g0 = (N : Int) ∧ g1 = (resN W I B N : Int))) := by
 unfold spec_RestrictTable.f impl_RestrictTable.f impl_isBit.f
 simp only [Option.bind_some, spec_IsTable_is, hasVariable_is]
 cases h : isT n w
 ·exact ⟨0, 0, false, by simp, by simp, Or.inl rfl⟩
 ·obtain ⟨h0, h5, hw, hl⟩ := isT_yes h
  have hl2 := lim_le n
  simp only [if_true, Bool.true_and]
  rw [w64 (by omega) (by omega), l1In_is, l1In_is]
  have e : decide (0 ≤ i ∧ i < n) = decide (0 ≤ i ∧ i ≤ n - 1) := by
   rw [decide_eq_decide]
   omega
  rw [e]
  by_cases hx : 0 ≤ i ∧ i ≤ n - 1
  ·rw [decide_eq_true hx]
   simp only [Option.bind_some, if_true]
   have eb : (if b = 0 then some true else some (b == 1)) = some (decide (0 ≤ b ∧ b ≤ 1)) := by
    by_cases hb : b = 0
    ·subst hb; rfl
    ·rw [if_neg hb]
     congr 1
     rw [Bool.eq_iff_iff]
     simp only [beq_iff_eq, decide_eq_true_eq]
     omega
   rw [eb]
   by_cases hb : 0 ≤ b ∧ b ≤ 1
   ·rw [decide_eq_true hb]
    simp only [Option.bind_some, if_true]
    rw [restrict_spec (by omega) h5 hw (by omega) hx.1 (by omega) hb.1 hb.2 (by omega), restrict_impl (by omega) h5 hw (by omega) hx.1 (by omega) hb.1 hb.2]
    obtain ⟨N, hN⟩ := Int.eq_ofNat_of_zero_le (show 0 ≤ n - 1 by omega)
    obtain ⟨W, rfl⟩ := Int.eq_ofNat_of_zero_le hw
    obtain ⟨I, rfl⟩ := Int.eq_ofNat_of_zero_le hx.1
    obtain ⟨B, rfl⟩ := Int.eq_ofNat_of_zero_le hb.1
    obtain rfl : n = (N : Int) + 1 := by omega
    rw [lim_succ (by omega)] at hl
    refine ⟨_, _, _, rfl, rfl, Or.inr ⟨rfl, by omega, N, W, I, B, by omega, by omega, by omega, by exact_mod_cast hl, rfl, rfl, rfl, rfl, by omega, ?_⟩⟩
    show ((resW _ _ _ _ : Nat) : Int) = _
    rw [resW_resN]
   ·rw [decide_eq_false hb]
    exact ⟨0, 0, false, by simp, by simp, Or.inl rfl⟩
  ·rw [decide_eq_false hx]
   exact ⟨0, 0, false, by simp, by simp, Or.inl rfl⟩
theorem restrict_at (N W I B : Nat) (hN : N ≤ 4) (hI : I ≤ N) (hB : B ≤ 1) (hW : W < 2 ^ 2 ^ (N + 1)) (K : Nat) (hK : 40 ≤ K) : spec_RestrictTable.f K ((N : Int) + 1) (W : Int) (I : Int) (B : Int) = some ((N : Int), (resN W I B N : Int), true) := by
 have hl := lim_succ hN
 have hle := lim_le ((N : Int) + 1)
 have hW' : (W : Int) < lim ((N : Int) + 1) := by rw [hl]; exact_mod_cast hW
 unfold spec_RestrictTable.f
 simp only [Option.bind_some, spec_IsTable_is]
 rw [isT_of ⟨by omega, by omega, by omega, hW'⟩, w64 (by omega) (by omega), l1In_is, l1In_is, decide_eq_true (by omega), decide_eq_true (by omega)]
 simp only [Option.bind_some, if_true]
 rw [restrict_spec (by omega) (by omega) (by omega) (by omega) (by omega) (by omega) (by omega) (by omega) (by omega)]
 simp only [Option.bind_some]
 rw [resW_resN, show (N : Int) + 1 - 1 = (N : Int) by omega]
theorem depends_at (N W I : Nat) (hN : N ≤ 4) (hI : I ≤ N) (hW : W < 2 ^ 2 ^ (N + 1)) : impl_DependsOn.f ((N : Int) + 1) (W : Int) (I : Int) = some (resN W I 0 N != resN W I 1 N) := by
 have hl := lim_succ hN
 have hle := lim_le ((N : Int) + 1)
 have hW' : (W : Int) < lim ((N : Int) + 1) := by rw [hl]; exact_mod_cast hW
 unfold impl_DependsOn.f
 simp only [Option.bind_some, hasVariable_is]
 rw [isT_of ⟨by omega, by omega, by omega, hW'⟩, decide_eq_true (by omega)]
 simp only [Option.bind_some, if_true, Bool.and_self]
 rw [depends_impl (by omega) (by omega) (by omega) (by omega) (by omega) (by omega)]
 simp only [Option.bind_some, depB]
 have e0 : resW (W : Int) (I : Int) 0 ((N : Int) + 1 - 1).toNat = resN W I 0 N := resW_resN W I 0 N
 have e1 : resW (W : Int) (I : Int) 1 ((N : Int) + 1 - 1).toNat = resN W I 1 N := resW_resN W I 1 N
 rw [e0, e1]

end Go.Proofs.Ytijpcemcijaeeaa.Rf

namespace Go.Proofs.Ytijpcemcijaeeaa.Tab
set_option linter.unusedVariables false
set_option linter.unusedSimpArgs false
open Go Go.RowKit Go.Proofs.Ytijpcemcijaeeaa.P Go.Proofs.Ytijpcemcijaeeaa.Bits Go.Proofs.YtijpcemcijaeeaaW.PrintWords Go.Proofs.YtijpcemcijaeeaaW.PrintLast Go.Proofs.YtijpcemcijaeeaaW.PrintMore

theorem xor_iff {j i s : Nat} : j = i ^^^ s ↔ j ^^^ s = i := by
 constructor
 ·rintro rfl
  rw [Nat.xor_assoc, Nat.xor_self, Nat.xor_zero]
 ·rintro rfl
  rw [Nat.xor_assoc, Nat.xor_self, Nat.xor_zero]

def shA (w s M i : Nat) : Nat := wordOf (fun j => decide (j ^^^ s < i) && w.testBit (j ^^^ s)) M
def shW (w s : Int) (n : Nat) : Nat := wordOf (fun x => w.toNat.testBit (x ^^^ s.toNat)) (2 ^ n)

theorem shA_step {w s n i : Nat} (hi : i < 2 ^ n) (hs : s < 2 ^ n) : shA w s (2 ^ n) i ||| (if w.testBit i then 2 ^ (i ^^^ s) else 0) = shA w s (2 ^ n) (i + 1) := by
 apply Nat.eq_of_testBit_eq
 intro j
 have hx := Nat.xor_lt_two_pow hi hs
 have e2 : (if w.testBit i then 2 ^ (i ^^^ s) else 0).testBit j = (decide (j ^^^ s = i) && w.testBit i) := by
  cases w.testBit i
  ·simp
  ·simp only [if_true, Nat.testBit_two_pow, Bool.and_true, decide_eq_decide]
   exact ⟨fun h => xor_iff.mp h.symm, fun h => (xor_iff.mpr h).symm⟩
 rw [Nat.testBit_or, e2, shA, shA, testBit_wordOf, testBit_wordOf, Bool.eq_iff_iff]
 simp only [Bool.or_eq_true, Bool.and_eq_true, decide_eq_true_eq]
 constructor
 ·rintro (⟨a, b, c⟩ | ⟨b, c⟩)
  ·exact ⟨a, by omega, c⟩
  ·exact ⟨by rw [xor_iff.mpr b]; exact hx, by omega, by rw [b]; exact c⟩
 ·rintro ⟨a, b, c⟩
  by_cases e : j ^^^ s = i
  ·exact Or.inr ⟨e, by rw [← e]; exact c⟩
  ·exact Or.inl ⟨a, by omega, c⟩

theorem shift_loop (n s : Nat) (w : Int) (hn : n ≤ 5) (hs : s < 2 ^ n) (w0 : 0 ≤ w) (w1 : w ≤ 4294967296) : ∀ (d j k : Nat), j + d = 2 ^ n → d < k →
  spec_l3Shift.l0 k (s : Int) ((shA w.toNat s (2 ^ n) j : Nat) : Int) (j : Int) (n : Int) w = some ((n : Int), ((shA w.toNat s (2 ^ n) (2 ^ n) : Nat) : Int)) := by
 have h32 := pow_le_32 hn
 intro d
 induction d with
 | zero =>
  intro j k hj hk
  obtain ⟨k, rfl⟩ : ∃ q, k = q + 1 := ⟨k - 1, by omega⟩
  obtain rfl : j = 2 ^ n := by omega
  simp only [spec_l3Shift.l0]
  rw [if_pos (by omega), shl_two_nat hn, if_neg (by omega)]
 | succ d ih =>
  intro j k hj hk
  obtain ⟨k, rfl⟩ : ∃ q, k = q + 1 := ⟨k - 1, by omega⟩
  have hx := Nat.xor_lt_two_pow (show j < 2 ^ n by omega) hs
  have o := or_bit (shA w.toNat s (2 ^ n) j) (j ^^^ s) (w.toNat.testBit j) (word63 _ (by omega)) (by omega)
  rw [shA_step (by omega) hs] at o
  simp only [spec_l3Shift.l0]
  rw [if_pos (by omega), shl_two_nat hn, if_pos (by omega), if_pos (by omega), xor_int (by omega) (by omega) (by omega) (by omega), if_pos (by omega), shr_is (by omega), bit_is w0 (by omega) (by omega) (by omega), Int.toNat_natCast, Int.toNat_natCast, o, w64 (by omega) (by omega)]
  exact ih (j + 1) k (by omega) (by omega)

theorem shift_spec {n w s : Int} (n0 : 0 ≤ n) (n5 : n ≤ 5) (w0 : 0 ≤ w) (w1 : w ≤ 4294967296) (s0 : 0 ≤ s) (s1 : s < two n) {k : Nat} (hk : 32 < k) :
  spec_l3Shift.f k n w s = some (n, ((shW w s n.toNat : Nat) : Int)) := by
 obtain ⟨N, rfl⟩ := Int.eq_ofNat_of_zero_le n0
 obtain ⟨S, rfl⟩ := Int.eq_ofNat_of_zero_le s0
 rw [two_nat (by omega)] at s1
 have h32 := pow_le_32 (show N ≤ 5 by omega)
 have h := shift_loop N S w (by omega) (by omega) w0 w1 (2 ^ N) 0 k (by omega) (by omega)
 have e0 : shA w.toNat S (2 ^ N) 0 = 0 := by
  apply Nat.eq_of_testBit_eq
  intro j
  rw [shA, testBit_wordOf]
  simp
 have e1 : shA w.toNat S (2 ^ N) (2 ^ N) = shW w (S : Int) ((N : Int)).toNat := by
  rw [shA, shW, Int.toNat_natCast, Int.toNat_natCast]
  apply wordOf_congr
  intro i hi
  rw [decide_eq_true (Nat.xor_lt_two_pow hi (show S < 2 ^ N by omega)), Bool.true_and]
 rw [e0, e1] at h
 exact h

theorem shift_impl {n w s : Int} (n0 : 0 ≤ n) (n5 : n ≤ 5) (w0 : 0 ≤ w) (w1 : w ≤ 4294967296) (s0 : 0 ≤ s) (s1 : s < two n) :
  impl_Table_shift.f n w s = some (n, ((shW w s n.toNat : Nat) : Int)) := by
 have := two_le n
 unfold impl_Table_shift.f shW
 rw [if_pos ⟨n0, n5, w0, w1, s0, by omega⟩]
end Go.Proofs.Ytijpcemcijaeeaa.Tab

namespace Go.Proofs.Ytijpcemcijaeeaa.Tab
set_option linter.unusedVariables false
set_option linter.unusedSimpArgs false
open Go Go.RowKit Go.Proofs.Ytijpcemcijaeeaa.P Go.Proofs.Ytijpcemcijaeeaa.Bits Go.Proofs.YtijpcemcijaeeaaW.PrintWords Go.Proofs.YtijpcemcijaeeaaW.PrintLast Go.Proofs.YtijpcemcijaeeaaW.PrintMore

theorem eqInt_loop (l : List Int) (hl : l.length < 2 ^ 60) : ∀ (d i k : Nat), i + d = l.length → d < k → laws_eqIntS.l0 k l l (i : Int) = some true := by
 intro d
 induction d with
 | zero =>
  intro i k hi hk
  obtain ⟨k, rfl⟩ : ∃ q, k = q + 1 := ⟨k - 1, by omega⟩
  simp only [laws_eqIntS.l0]
  rw [if_neg (by omega)]
 | succ d ih =>
  intro i k hi hk
  obtain ⟨k, rfl⟩ : ∃ q, k = q + 1 := ⟨k - 1, by omega⟩
  simp only [laws_eqIntS.l0]
  rw [if_pos (by omega), if_pos (by omega), if_pos (by omega), if_pos trivial, w64 (by omega) (by omega)]
  exact ih (i + 1) k (by omega) (by omega)

theorem eqInt_self (l : List Int) (hl : l.length < 2 ^ 60) {k : Nat} (hk : l.length < k) : laws_eqIntS.f k l l = some true := by
 unfold laws_eqIntS.f
 rw [if_pos rfl]
 exact eqInt_loop l hl l.length 0 k (by omega) hk

theorem mark_loop (L : Nat) (hL : L < 2 ^ 60) : ∀ (d i k : Nat) (x : List Int), i + d = L → x.length = L → (∀ j, j < i → x[j]? = some ((j : Int) + 1)) → d < k →
  ∃ y, laws_markIntS.l0 k x ((i : Int) + 1) (i : Int) = some ((L : Int) + 1, y) ∧ y.length = L ∧ ∀ j, j < L → y[j]? = some ((j : Int) + 1) := by
 intro d
 induction d with
 | zero =>
  intro i k x hi hx h hk
  obtain ⟨k, rfl⟩ : ∃ q, k = q + 1 := ⟨k - 1, by omega⟩
  simp only [laws_markIntS.l0]
  rw [if_neg (by omega)]
  obtain rfl : i = L := by omega
  exact ⟨x, rfl, hx, h⟩
 | succ d ih =>
  intro i k x hi hx h hk
  obtain ⟨k, rfl⟩ : ∃ q, k = q + 1 := ⟨k - 1, by omega⟩
  simp only [laws_markIntS.l0]
  rw [if_pos (by omega), if_pos (by omega), w64 (by omega) (by omega), w64 (by omega) (by omega), Int.toNat_natCast]
  refine ih (i + 1) k (x.set i ((i : Int) + 1)) (by omega) (by rw [List.length_set, hx]) ?_ (by omega)
  intro j hj
  rw [List.getElem?_set]
  by_cases e : i = j
  ·subst e
   rw [if_pos rfl, if_pos (by omega)]
  ·rw [if_neg e]
   exact h j (by omega)

theorem held_loop (L : Nat) (hL : L < 2 ^ 60) (y : List Int) (hy : y.length = L) (h : ∀ j, j < L → y[j]? = some ((j : Int) + 1)) : ∀ (d i k : Nat), i + d = L → d < k →
  laws_heldIntS.l0 k y ((i : Int) + 1) (i : Int) = some ((L : Int) + 1) := by
 intro d
 induction d with
 | zero =>
  intro i k hi hk
  obtain ⟨k, rfl⟩ : ∃ q, k = q + 1 := ⟨k - 1, by omega⟩
  simp only [laws_heldIntS.l0]
  rw [if_neg (by omega)]
  obtain rfl : i = L := by omega
  rfl
 | succ d ih =>
  intro i k hi hk
  obtain ⟨k, rfl⟩ : ∃ q, k = q + 1 := ⟨k - 1, by omega⟩
  simp only [laws_heldIntS.l0]
  have hr : rd y (i : Int) = (i : Int) + 1 := by
   unfold rd
   rw [Int.toNat_natCast, List.getD_eq_getElem?_getD, h i (by omega)]
   rfl
  rw [if_pos (by omega), if_pos (by omega), if_pos hr, w64 (by omega) (by omega), w64 (by omega) (by omega)]
  exact ih (i + 1) k (by omega) (by omega)

theorem mark_held (l : List Int) (hl : l.length < 2 ^ 60) {k : Nat} (hk : l.length < k) : ∃ y, laws_markIntS.f k l 1 = some ((l.length : Int) + 1, y) ∧ laws_heldIntS.f k y 1 = some ((l.length : Int) + 1) := by
 obtain ⟨y, h1, h2, h3⟩ := mark_loop l.length hl l.length 0 k l (by omega) rfl (fun j hj => absurd hj (by omega)) hk
 exact ⟨y, h1, held_loop l.length hl y h2 h3 l.length 0 k (by omega) hk⟩
end Go.Proofs.Ytijpcemcijaeeaa.Tab

namespace Go.Proofs.Ytijpcemcijaeeaa.Rf
set_option linter.unusedVariables false
set_option linter.unusedSimpArgs false
open Go Go.RowKit Go.Proofs.Ytijpcemcijaeeaa.P Go.Proofs.Ytijpcemcijaeeaa.Bits Go.Proofs.Ytijpcemcijaeeaa.Tab Go.Proofs.YtijpcemcijaeeaaW.PrintWords Go.Proofs.YtijpcemcijaeeaaW.PrintLast Go.Proofs.YtijpcemcijaeeaaW.PrintMore

/-! whether a table depends on a variable, and what is left of it -/
theorem swap_all : ∀ N : Fin 4, ∀ i : Fin (N.val + 2), ∀ j : Fin (N.val + 1), ∀ x : Fin (2 ^ N.val), ∀ b c : Fin 2, spreadN (spreadN x.val j.val b.val) i.val c.val = spreadN (spreadN x.val (if j.val < i.val then i.val - 1 else i.val) c.val) (if j.val < i.val then j.val else j.val + 1) b.val := by decide +kernel
theorem swap_is {N i j x b c : Nat} (hN : N ≤ 3) (hi : i ≤ N + 1) (hj : j ≤ N) (hx : x < 2 ^ N) (hb : b ≤ 1) (hc : c ≤ 1) : spreadN (spreadN x j b) i c = spreadN (spreadN x (if j < i then i - 1 else i) c) (if j < i then j else j + 1) b :=
 swap_all ⟨N, by omega⟩ ⟨i, by show i < N + 2; omega⟩ ⟨j, by show j < N + 1; omega⟩ ⟨x, hx⟩ ⟨b, by omega⟩ ⟨c, by omega⟩

theorem res_same (W i N : Nat) : resN W i 0 N = resN W i 1 N ↔ ∀ x, x < 2 ^ N → W.testBit (spreadN x i 0) = W.testBit (spreadN x i 1) := by
 constructor
 ·intro h x hx
  rw [← resN_bit W i 0 N x hx, ← resN_bit W i 1 N x hx, h]
 ·intro h
  exact wordOf_congr _ h

theorem keep_dep {N W i j : Nat} (hN : N ≤ 3) (hi : i ≤ N + 1) (hj : j ≤ N) (hind : resN W i 0 (N + 1) = resN W i 1 (N + 1)) :
  resN (resN W i 0 (N + 1)) j 0 N = resN (resN W i 0 (N + 1)) j 1 N ↔ resN W (if j < i then j else j + 1) 0 (N + 1) = resN W (if j < i then j else j + 1) 1 (N + 1) := by
 rw [res_same, res_same]
 have hi' : (if j < i then i - 1 else i) ≤ N := by split <;> omega
 have hw := (res_same W i (N + 1)).1 hind
 constructor
 ·intro h y hy
  obtain ⟨l1, l2⟩ := low_is (show N ≤ 4 by omega) hi' hy
  have hc : (y.testBit (if j < i then i - 1 else i)).toNat ≤ 1 := by cases y.testBit (if j < i then i - 1 else i) <;> decide
  obtain ⟨c, hce⟩ : ∃ c, c = (y.testBit (if j < i then i - 1 else i)).toNat := ⟨_, rfl⟩
  rw [← hce] at l1 hc
  have e := h _ l2
  obtain ⟨-, -, a2⟩ := spread_low (show N ≤ 4 by omega) hj l2 (show 0 ≤ 1 by omega)
  obtain ⟨-, -, b2⟩ := spread_low (show N ≤ 4 by omega) hj l2 (show 1 ≤ 1 by omega)
  rw [resN_bit _ _ _ _ _ a2, resN_bit _ _ _ _ _ b2] at e
  have z : ∀ q, q < 2 ^ (N + 1) → W.testBit (spreadN q i c) = W.testBit (spreadN q i 0) := by
   intro q hq
   obtain rfl | rfl : c = 0 ∨ c = 1 := by omega
   ·rfl
   ·exact (hw q hq).symm
  have s0 := swap_is hN hi hj l2 (show 0 ≤ 1 by omega) hc
  have s1 := swap_is hN hi hj l2 (show 1 ≤ 1 by omega) hc
  rw [l1] at s0 s1
  rw [← s0, ← s1, z _ a2, z _ b2]
  exact e
 ·intro h x hx
  obtain ⟨-, -, a2⟩ := spread_low (show N ≤ 4 by omega) hj hx (show 0 ≤ 1 by omega)
  obtain ⟨-, -, b2⟩ := spread_low (show N ≤ 4 by omega) hj hx (show 1 ≤ 1 by omega)
  obtain ⟨-, -, c2⟩ := spread_low (show N ≤ 4 by omega) hi' hx (show 0 ≤ 1 by omega)
  rw [resN_bit _ _ _ _ _ a2, resN_bit _ _ _ _ _ b2, swap_is hN hi hj hx (by omega) (by omega), swap_is hN hi hj hx (show 1 ≤ 1 by omega) (show 0 ≤ 1 by omega)]
  exact h _ c2

/-- Does the table W of n bits depend on its variable j? -/
def dp (n W j : Nat) : Bool := resN W j 0 (n - 1) != resN W j 1 (n - 1)
theorem depB_dp {n W j : Nat} (hn : 1 ≤ n) : depB (n : Int) (W : Int) (j : Int) = dp n W j := by
 obtain ⟨N, rfl⟩ : ∃ N, n = N + 1 := ⟨n - 1, by omega⟩
 have e0 : resW (W : Int) (j : Int) 0 (((N + 1 : Nat) : Int) - 1).toNat = resN W j 0 N := resW_resN W j 0 N
 have e1 : resW (W : Int) (j : Int) 1 (((N + 1 : Nat) : Int) - 1).toNat = resN W j 1 N := resW_resN W j 1 N
 unfold depB dp
 rw [e0, e1]
 rfl
theorem dp_keep {n W d : Nat} (hn : n ≤ 5) (hd : d < n) (h : dp n W d = false) : ∀ j, j < n - 1 → dp (n - 1) (resN W d 0 (n - 1)) j = dp n W (if j < d then j else j + 1) := by
 intro j hj
 obtain ⟨N, rfl⟩ : ∃ N, n = N + 2 := ⟨n - 2, by omega⟩
 have h' : resN W d 0 (N + 1) = resN W d 1 (N + 1) := by
  have : (resN W d 0 (N + 1) != resN W d 1 (N + 1)) = false := h
  exact bne_eq_false_iff_eq.mp this
 have k := keep_dep (W := W) (show N ≤ 3 by omega) (show d ≤ N + 1 by omega) (show j ≤ N by omega) h'
 show (resN (resN W d 0 (N + 1)) j 0 N != resN (resN W d 0 (N + 1)) j 1 N) = (resN W _ 0 (N + 1) != resN W _ 1 (N + 1))
 rw [Bool.eq_iff_iff, bne_iff_ne, bne_iff_ne]
 exact not_congr k

/-- How many variables a table depends on. -/
def cnt (n W : Nat) : Nat := (List.range n).countP (dp n W)
theorem cnt_keep {n W d : Nat} (hn : n ≤ 5) (hd : d < n) (h : dp n W d = false) : cnt (n - 1) (resN W d 0 (n - 1)) = cnt n W := by
 have k := dp_keep hn hd h
 obtain ⟨m, rfl⟩ : ∃ m, n = d + (1 + m) := ⟨n - d - 1, by omega⟩
 rw [show d + (1 + m) - 1 = d + m by omega] at k ⊢
 unfold cnt
 rw [List.range_add, List.range_add, List.countP_append, List.countP_append, List.range_add, List.map_append, List.countP_append]
 have e1 : (List.range d).countP (dp (d + m) (resN W d 0 (d + m))) = (List.range d).countP (dp (d + (1 + m)) W) := by
  apply List.countP_congr
  intro j hj
  rw [List.mem_range] at hj
  rw [k j (by omega), if_pos hj]
 have e2 : ((List.range 1).map (d + ·)).countP (dp (d + (1 + m)) W) = 0 := by
  rw [show (List.range 1).map (d + ·) = [d] by simp [List.range_succ]]
  simp [h]
 have e3 : ((List.range m).map (d + ·)).countP (dp (d + m) (resN W d 0 (d + m))) = (((List.range m).map (1 + ·)).map (d + ·)).countP (dp (d + (1 + m)) W) := by
  rw [List.countP_map, List.map_map, List.countP_map]
  apply List.countP_congr
  intro j hj
  rw [List.mem_range] at hj
  show dp (d + m) _ (d + j) = true ↔ dp (d + (1 + m)) W (d + (1 + j)) = true
  rw [k (d + j) (by omega), if_neg (by omega), show d + j + 1 = d + (1 + j) by omega]
 rw [e1, e2, e3, Nat.zero_add]

theorem reduce_at : ∀ (d n W k : Nat), d ≤ n → n ≤ 5 → W < 2 ^ 2 ^ n → (∀ j, d ≤ j → j < n → dp n W j = true) → d + 18 ≤ k →
  ∃ m V : Nat, m ≤ 5 ∧ V < 2 ^ 2 ^ m ∧ spec_ReduceTable.l0 k ((d : Int) - 1) (n : Int) (W : Int) = some ((m : Int), (V : Int), true) ∧ impl_ReduceTable.l0 k ((d : Int) - 1) (n : Int) (W : Int) = some ((m : Int), (V : Int), true) ∧ cnt m V = m ∧ cnt n W = m := by
 intro d
 induction d with
 | zero =>
  intro n W k _ hn hW hall hk
  obtain ⟨k, rfl⟩ : ∃ q, k = q + 1 := ⟨k - 1, by omega⟩
  have hc : cnt n W = n := by
   have : (List.range n).countP (dp n W) = (List.range n).length := List.countP_eq_length.2 (fun j hj => hall j (by omega) (List.mem_range.1 hj))
   rw [List.length_range] at this
   exact this
  refine ⟨n, W, hn, hW, ?_, ?_, hc, hc⟩
  ·simp only [spec_ReduceTable.l0]
   rw [if_neg (by omega)]
  ·simp only [impl_ReduceTable.l0]
   rw [if_neg (by omega)]
 | succ d ih =>
  intro n W k hd hn hW hall hk
  obtain ⟨k, rfl⟩ : ∃ q, k = q + 1 := ⟨k - 1, by omega⟩
  have h32 : 2 ^ 2 ^ n ≤ 2 ^ 32 := Nat.pow_le_pow_right (by decide) (pow_le_32 hn)
  have q32 : (2 : Nat) ^ 32 = 4294967296 := by decide
  simp only [spec_ReduceTable.l0, impl_ReduceTable.l0]
  rw [show ((d + 1 : Nat) : Int) - 1 = (d : Int) from by omega, if_pos (by omega), if_pos (by omega), depends_spec (by omega) (by omega) (by omega) (by omega) (by omega) (by omega) (by omega), depends_impl (by omega) (by omega) (by omega) (by omega) (by omega) (by omega), restrict_spec (by omega) (by omega) (by omega) (by omega) (by omega) (by omega) (by decide) (by decide) (by omega), restrict_impl (by omega) (by omega) (by omega) (by omega) (by omega) (by omega) (by decide) (by decide), w64 (by omega) (by omega), depB_dp (by omega)]
  simp only [Option.bind_some]
  cases hb : dp n W d
  ·simp only [Bool.false_eq_true, if_false]
   have e0 : resW (W : Int) (d : Int) 0 ((n : Int) - 1).toNat = resN W d 0 (n - 1) := by
    have := resW_resN W d 0 (n - 1)
    rw [show ((n - 1 : Nat) : Int) + 1 - 1 = (n : Int) - 1 by omega] at this
    exact this
   have k1 := dp_keep hn (show d < n by omega) hb
   obtain ⟨m, V, m1, m2, m3, m4, m5, m6⟩ := ih (n - 1) (resN W d 0 (n - 1)) k (by omega) (by omega) (resN_lt _ _ _ _) (fun j hj hj2 => by
    rw [k1 j hj2, if_neg (by omega)]
    exact hall (j + 1) (by omega) (by omega)) (by omega)
   rw [cnt_keep hn (by omega) hb] at m6
   rw [show ((n - 1 : Nat) : Int) = (n : Int) - 1 by omega] at m3 m4
   rw [e0]
   exact ⟨m, V, m1, m2, m3, m4, m5, m6⟩
  ·simp only [if_true]
   exact ih n W k (by omega) hn hW (fun j hj hj2 => by
    by_cases e : j = d
    ·subst e; exact hb
    ·exact hall j (by omega) hj2) (by omega)

/-- The variables that a table depends on, from number i on. -/
theorem vars_at (n W : Nat) (hn : n ≤ 5) (hW : W < 2 ^ 2 ^ n) : ∀ (d i k : Nat) (l : List Int), i + d = n → l.length ≤ i → 2 * d + 20 ≤ k →
  ∃ r, r.length = l.length + ((List.range' i d).countP (dp n W)) ∧ spec_VariablesOf.l0 k l (i : Int) (n : Int) (W : Int) = some r ∧ impl_VariablesOf.l0 k l (n : Int) (i : Int) (n : Int) (W : Int) = some r := by
 have h32 : 2 ^ 2 ^ n ≤ 2 ^ 32 := Nat.pow_le_pow_right (by decide) (pow_le_32 hn)
 have q32 : (2 : Nat) ^ 32 = 4294967296 := by decide
 have hT : isT (n : Int) (W : Int) = true := by
  refine isT_of ⟨by omega, by omega, by omega, ?_⟩
  rw [lim_two (by omega) (by omega), two_nat (by omega), Int.toNat_natCast]
  exact_mod_cast hW
 intro d
 induction d with
 | zero =>
  intro i k l hi hlen hk
  obtain ⟨k, rfl⟩ : ∃ q, k = q + 1 + 1 := ⟨k - 2, by omega⟩
  obtain rfl : i = n := by omega
  simp only [spec_VariablesOf.l0, impl_VariablesOf.l0, spec_IsTable_is, hT, Option.bind_some, if_true, spec_VariablesOf.j1]
  rw [if_neg (by simp), if_neg (by omega)]
  exact ⟨l, by simp, rfl, rfl⟩
 | succ d ih =>
  intro i k l hi hlen hk
  obtain ⟨k, rfl⟩ : ∃ q, k = q + 1 + 1 := ⟨k - 2, by omega⟩
  simp only [spec_VariablesOf.l0, spec_IsTable_is, hT, Option.bind_some, if_true, spec_VariablesOf.j1]
  rw [impl_VariablesOf.l0, if_pos (show decide ((i : Int) < (n : Int)) = true from decide_eq_true (by omega)), if_pos (show (i : Int) < (n : Int) by omega), depends_spec (by omega) (by omega) (by omega) (by omega) (by omega) (by omega) (by omega), depends_impl (by omega) (by omega) (by omega) (by omega) (by omega) (by omega), w64 (by omega) (by omega), depB_dp (by omega)]
  simp only [Option.bind_some]
  rw [List.range'_succ, List.countP_cons]
  cases hb : dp n W i
  ·simp only [Bool.false_eq_true, if_false]
   obtain ⟨r, r1, r2, r3⟩ := ih (i + 1) k l (by omega) (by omega) (by omega)
   exact ⟨r, by rw [r1]; omega, r2, impl_VariablesOf.mono_l k _ _ _ _ _ _ r3⟩
  ·simp only [if_true]
   simp only [if_pos (show l.length < 17592186044416 by omega)]
   obtain ⟨r, r1, r2, r3⟩ := ih (i + 1) k (l ++ [(i : Int)]) (by omega) (by simp; omega) (by omega)
   exact ⟨r, by rw [r1]; simp; omega, r2, impl_VariablesOf.mono_l k _ _ _ _ _ _ r3⟩
theorem lim_nat5 {n : Nat} (hn : n ≤ 5) : lim (n : Int) = ((2 ^ 2 ^ n : Nat) : Int) := by
 rw [lim_two (by omega) (by omega), two_nat (by omega), Int.toNat_natCast]
 norm_cast
theorem isT_nat {n W : Nat} (hn : n ≤ 5) (hW : W < 2 ^ 2 ^ n) : isT (n : Int) (W : Int) = true := by
 refine isT_of ⟨by omega, by omega, by omega, ?_⟩
 rw [lim_nat5 hn]
 exact_mod_cast hW
theorem isT_nats {n w : Int} (h : isT n w = true) : ∃ N W : Nat, n = (N : Int) ∧ w = (W : Int) ∧ N ≤ 5 ∧ W < 2 ^ 2 ^ N := by
 obtain ⟨h0, h5, hw, hl⟩ := isT_yes h
 obtain ⟨N, rfl⟩ := Int.eq_ofNat_of_zero_le h0
 obtain ⟨W, rfl⟩ := Int.eq_ofNat_of_zero_le hw
 rw [lim_nat5 (by omega)] at hl
 exact ⟨N, W, rfl, rfl, by omega, by exact_mod_cast hl⟩
theorem vars_law (n w : Int) (k : Nat) (hk : 40 ≤ k) : ∃ r, r.length ≤ 5 ∧ spec_VariablesOf.f k n w = some r ∧ impl_VariablesOf.f k n w = some r ∧ ∀ N W : Nat, N ≤ 5 → W < 2 ^ 2 ^ N → n = (N : Int) → w = (W : Int) → r.length = cnt N W := by
 unfold spec_VariablesOf.f impl_VariablesOf.f
 simp only [Option.bind_some, impl_IsTable_is]
 cases h : isT n w
 ·refine ⟨[], by simp, ?_, by simp, ?_⟩
  ·obtain ⟨k, rfl⟩ : ∃ q, k = q + 1 + 1 := ⟨k - 2, by omega⟩
   simp [spec_VariablesOf.l0, spec_IsTable_is, h, spec_VariablesOf.j1]
  ·rintro N W hN hW rfl rfl
   rw [isT_nat hN hW] at h
   exact absurd h (by decide)
 ·obtain ⟨N, W, rfl, rfl, hN, hW⟩ := isT_nats h
  obtain ⟨r, r1, r2, r3⟩ := vars_at N W hN hW N 0 k [] (by omega) (by simp) (by omega)
  have hc : r.length = cnt N W := by
   rw [r1, ← List.range_eq_range']
   simp [cnt]
  have hle : cnt N W ≤ N := by
   have := List.countP_le_length (p := dp N W) (l := List.range N)
   rw [List.length_range] at this
   exact this
  refine ⟨r, by omega, r2, by simp only [if_true]; exact r3, ?_⟩
  intro N' W' _ _ e1 e2
  obtain rfl : N = N' := by omega
  obtain rfl : W = W' := by omega
  exact hc
theorem reduce_law (n w : Int) (k : Nat) (hk : 40 ≤ k) : ∃ r0 r1 is, impl_ReduceTable.f k n w = some (r0, r1, is) ∧ spec_ReduceTable.f k n w = some (r0, r1, is) ∧
  (is = false ∨ (is = true ∧ ∃ l l', impl_VariablesOf.f k n w = some l ∧ impl_VariablesOf.f k r0 r1 = some l' ∧ r0 = (l.length : Int) ∧ (l'.length : Int) = r0)) := by
 unfold spec_ReduceTable.f impl_ReduceTable.f
 simp only [Option.bind_some, spec_IsTable_is, impl_IsTable_is]
 cases h : isT n w
 ·exact ⟨0, 0, false, by simp, by simp, Or.inl rfl⟩
 ·obtain ⟨N, W, rfl, rfl, hN, hW⟩ := isT_nats h
  simp only [if_true]
  rw [w64 (by omega) (by omega)]
  obtain ⟨m, V, m1, m2, m3, m4, m5, m6⟩ := reduce_at N N W k (by omega) hN hW (fun j h1 h2 => by omega) (by omega)
  obtain ⟨l, -, -, l2, l3⟩ := vars_law (N : Int) (W : Int) k hk
  obtain ⟨l', -, -, l2', l3'⟩ := vars_law (m : Int) (V : Int) k hk
  refine ⟨_, _, _, m4, m3, Or.inr ⟨rfl, l, l', l2, l2', ?_, ?_⟩⟩
  ·rw [l3 N W hN hW rfl rfl, m6]
  ·rw [l3' m V m1 m2 rfl rfl, m5]

/-! a shift and back -/
theorem shift_back (n w s : Int) (k : Nat) (hk : 40 ≤ k) : ∃ t0 t1 is, impl_ShiftTable.f n w s = some (t0, t1, is) ∧ spec_ShiftTable.f k n w s = some (t0, t1, is) ∧
  (is = false ∨ (is = true ∧ impl_ShiftTable.f t0 t1 s = some (n, w, true))) := by
 have key : ∀ w, impl_ShiftTable.f n w s = if isT n w = true ∧ 0 ≤ s ∧ s < two n then some (n, ((shW w s n.toNat : Nat) : Int), true) else some (0, 0, false) := by
  intro w
  unfold impl_ShiftTable.f impl_hasInput.f
  simp only [Option.bind_some, impl_IsTable_is]
  cases h : isT n w
  ·simp
  ·obtain ⟨h0, h5, hw, hl⟩ := isT_yes h
   have hl2 := lim_le n
   simp only [if_true, true_and]
   rw [impl_isInput_is h0 h5]
   by_cases hx : 0 ≤ s ∧ s < two n
   ·rw [decide_eq_true hx, if_pos hx]
    simp only [Option.bind_some, if_true]
    rw [shift_impl h0 h5 hw (by omega) hx.1 hx.2]
    simp
   ·rw [decide_eq_false hx, if_neg hx]
    simp
 have keys : spec_ShiftTable.f k n w s = impl_ShiftTable.f n w s := by
  rw [key]
  unfold spec_ShiftTable.f
  simp only [Option.bind_some, spec_IsTable_is]
  cases h : isT n w
  ·simp
  ·obtain ⟨h0, h5, hw, hl⟩ := isT_yes h
   have hl2 := lim_le n
   simp only [if_true, true_and]
   rw [if_pos h0, two_at h0 h5, l1In_is]
   by_cases hx : 0 ≤ s ∧ s < two n
   ·rw [decide_eq_true (show 0 ≤ s ∧ s ≤ two n - 1 by omega), if_pos hx]
    simp only [Option.bind_some, if_true]
    rw [shift_spec h0 h5 hw (by omega) hx.1 hx.2 (by omega)]
    simp
   ·rw [decide_eq_false (show ¬ (0 ≤ s ∧ s ≤ two n - 1) by omega), if_neg hx]
    simp
 rw [keys, key]
 by_cases hc : isT n w = true ∧ 0 ≤ s ∧ s < two n
 ·rw [if_pos hc]
  obtain ⟨N, W, rfl, rfl, hN, hW⟩ := isT_nats hc.1
  obtain ⟨S, rfl⟩ := Int.eq_ofNat_of_zero_le hc.2.1
  refine ⟨_, _, _, rfl, rfl, Or.inr ⟨rfl, ?_⟩⟩
  have hs : S < 2 ^ N := by
   have := hc.2.2
   rw [two_nat hN] at this
   exact_mod_cast this
  have hlt : shW (W : Int) (S : Int) N < 2 ^ 2 ^ N := wordOf_lt _ _
  rw [Int.toNat_natCast, key, if_pos ⟨isT_nat hN hlt, hc.2⟩, Int.toNat_natCast]
  congr 3
  refine congrArg (fun (z : Nat) => (z : Int)) ?_
  apply Nat.eq_of_testBit_eq
  intro x
  unfold shW
  rw [testBit_wordOf]
  simp only [Int.toNat_natCast]
  by_cases hx : x < 2 ^ N
  ·rw [decide_eq_true hx, Bool.true_and, testBit_wordOf, decide_eq_true (Nat.xor_lt_two_pow hx hs), Bool.true_and, Nat.xor_assoc, Nat.xor_self, Nat.xor_zero]
  ·rw [decide_eq_false hx, Bool.false_and, Nat.testBit_lt_two_pow (Nat.lt_of_lt_of_le hW (Nat.pow_le_pow_right (by decide) (by omega)))]
 ·rw [if_neg hc]
  exact ⟨0, 0, false, rfl, rfl, Or.inl rfl⟩

/-! the same list twice -/
theorem sameInts_loop (l : List Int) (hl : l.length ≤ 1000) : ∀ (d i k : Nat), i + d = l.length → d < k → laws_sameInts.l0 k l l (i : Int) = some true := by
 intro d
 induction d with
 | zero =>
  intro i k hi hk
  obtain ⟨k, rfl⟩ : ∃ q, k = q + 1 := ⟨k - 1, by omega⟩
  simp only [laws_sameInts.l0]
  rw [if_neg (by omega)]
 | succ d ih =>
  intro i k hi hk
  obtain ⟨k, rfl⟩ : ∃ q, k = q + 1 := ⟨k - 1, by omega⟩
  simp only [laws_sameInts.l0]
  rw [if_pos (by omega), if_pos (by omega), if_pos (by omega), if_pos True.intro, w64 (by omega) (by omega)]
  exact ih (i + 1) k (by omega) (by omega)
theorem sameInts_self (l : List Int) (hl : l.length ≤ 1000) (k : Nat) (hk : l.length < k) : laws_sameInts.f k l l = some true := by
 unfold laws_sameInts.f
 rw [if_pos rfl]
 exact sameInts_loop l hl l.length 0 k (by omega) hk

end Go.Proofs.Ytijpcemcijaeeaa.Rf

namespace Go.Proofs.Ytijpcemcijaeeaa.Rfc
set_option linter.unusedVariables false
set_option linter.unusedSimpArgs false
open Go Go.RowKit Go.Proofs.Ytijpcemcijaeeaa.P Go.Proofs.Ytijpcemcijaeeaa.Bits Go.Proofs.Ytijpcemcijaeeaa.Tab Go.Proofs.Ytijpcemcijaeeaa.Per Go.Proofs.Ytijpcemcijaeeaa.Rf Go.Proofs.YtijpcemcijaeeaaW.PrintWords Go.Proofs.YtijpcemcijaeeaaW.PrintLast Go.Proofs.YtijpcemcijaeeaaW.PrintMore

theorem uwrap_nat (n : Nat) (h : n < 2 ^ 64) : IntKind.u64.wrap (n : Int) = (n : Int) := by
 unfold IntKind.wrap
 simp [IntKind.bits, IntKind.signed]
 omega

theorem uofInt_nat (a : Nat) (ha : a < 2 ^ 64) : (BitVec.ofInt 64 (a : Int)).toNat = a := by
 rw [BitVec.ofInt_natCast, BitVec.toNat_ofNat]
 exact Nat.mod_eq_of_lt ha

theorem uand_nat (a b : Nat) (ha : a < 2 ^ 64) (hb : b < 2 ^ 64) : bits .and .u64 (a : Int) (b : Int) = ((a &&& b : Nat) : Int) := by
 show IntKind.u64.wrap (((BitVec.ofInt 64 (a : Int) &&& BitVec.ofInt 64 (b : Int)).toNat : Nat) : Int) = _
 rw [BitVec.toNat_and, uofInt_nat a ha, uofInt_nat b hb]
 exact uwrap_nat _ (Nat.and_lt_two_pow _ hb)

theorem and_join {a b c d : Nat} (hb : b < 256) (hd : d < 256) : (256 * a + b) &&& (256 * c + d) = 256 * (a &&& c) + (b &&& d) := by
 have h1 : b &&& d < 2 ^ 8 := Nat.lt_of_le_of_lt Nat.and_le_left hb
 apply Nat.eq_of_testBit_eq
 intro j
 rw [Nat.testBit_and, show 256 = 2 ^ 8 from rfl, Nat.testBit_two_pow_mul_add _ hb, Nat.testBit_two_pow_mul_add _ hd, Nat.testBit_two_pow_mul_add _ h1]
 split
 ·rw [Nat.testBit_and]
 ·rw [Nat.testBit_and]

def t1 (x m : Nat) : Nat := (x / 2 &&& m) + (x &&& m)
def t2 (x m : Nat) : Nat := (x / 4 &&& m) + (x &&& m)
def t3 (x m : Nat) : Nat := (x / 16 + x) &&& m
def g1 (b : Nat) : Nat := t1 b 85
def g2 (b : Nat) : Nat := t2 b 51
def g3 (b : Nat) : Nat := t3 b 15
def g (b : Nat) : Nat := g3 (g2 (g1 b))

theorem b1 : ∀ (e : Fin 2) (b : Fin 256), (128 * e.val + b.val / 2) &&& 85 = b.val / 2 &&& 85 := by decide +kernel
theorem b2 : ∀ (e : Fin 4) (b : Fin 256), (64 * e.val + b.val / 4) &&& 51 = b.val / 4 &&& 51 := by decide +kernel
theorem b3 : ∀ (e : Fin 5) (b : Fin 69), (16 * e.val + b.val / 16 + b.val) &&& 15 = (b.val / 16 + b.val) &&& 15 := by decide +kernel
theorem g1_lt : ∀ b : Fin 256, g1 b.val < 256 := by decide +kernel
theorem g2_lt : ∀ b : Fin 256, g2 (g1 b.val) < 69 ∧ g2 (g1 b.val) % 16 < 5 := by decide +kernel
def pc : Nat → Nat → Nat
 | 0, _ => 0
 | m + 1, x => x % 2 + pc m (x / 2)
theorem g_is : ∀ b : Fin 256, g b.val = pc 8 b.val ∧ g b.val ≤ 8 := by decide +kernel

theorem t1_step {a b m : Nat} (hb : b < 256) : t1 (256 * a + b) (256 * m + 85) = 256 * t1 a m + g1 b := by
 have e := b1 ⟨a % 2, by omega⟩ ⟨b, hb⟩
 simp only at e
 unfold g1 t1
 rw [show (256 * a + b) / 2 = 256 * (a / 2) + (128 * (a % 2) + b / 2) by omega, and_join (by omega) (by decide), and_join hb (by decide), e]
 omega

theorem t2_step {a b m : Nat} (hb : b < 256) : t2 (256 * a + b) (256 * m + 51) = 256 * t2 a m + g2 b := by
 have e := b2 ⟨a % 4, by omega⟩ ⟨b, hb⟩
 simp only at e
 unfold g2 t2
 rw [show (256 * a + b) / 4 = 256 * (a / 4) + (64 * (a % 4) + b / 4) by omega, and_join (by omega) (by decide), and_join hb (by decide), e]
 omega

theorem t3_step {a b m : Nat} (hb : b < 69) (ha : a % 16 < 5) : t3 (256 * a + b) (256 * m + 15) = 256 * t3 a m + g3 b := by
 have e := b3 ⟨a % 16, ha⟩ ⟨b, hb⟩
 simp only at e
 unfold g3 t3
 rw [show (256 * a + b) / 16 + (256 * a + b) = 256 * (a / 16 + a) + (16 * (a % 16) + b / 16 + b) by omega, and_join (by omega) (by decide), e]

theorem pc_split : ∀ (s m a b : Nat), b < 2 ^ s → pc (s + m) (2 ^ s * a + b) = pc s b + pc m a := by
 intro s
 induction s with
 | zero =>
  intro m a b hb
  obtain rfl : b = 0 := by omega
  simp [pc]
 | succ s ih =>
  intro m a b hb
  rw [Nat.pow_succ] at hb
  have e : 2 ^ (s + 1) * a = 2 * (2 ^ s * a) := by rw [Nat.pow_succ, Nat.mul_comm (2 ^ s) 2, Nat.mul_assoc]
  rw [show s + 1 + m = (s + m) + 1 by omega, pc, pc, e, show (2 * (2 ^ s * a) + b) / 2 = 2 ^ s * a + b / 2 by omega, ih m a (b / 2) (by omega)]
  omega

theorem pc32 {x b0 b1 b2 b3 : Nat} (hx : x = 256 * (256 * (256 * b3 + b2) + b1) + b0) (h0 : b0 < 256) (h1 : b1 < 256) (h2 : b2 < 256) (h3 : b3 < 256) : pc 32 x = pc 8 b0 + pc 8 b1 + pc 8 b2 + pc 8 b3 := by
 have e0 := pc_split 8 24 (256 * (256 * b3 + b2) + b1) b0 h0
 have e1 := pc_split 8 16 (256 * b3 + b2) b1 h1
 have e2 := pc_split 8 8 b3 b2 h2
 rw [hx]
 simp only [show (2 : Nat) ^ 8 = 256 from rfl] at e0 e1 e2
 rw [show 8 + 24 = 32 from rfl] at e0
 rw [show 8 + 16 = 24 from rfl] at e1
 rw [show 8 + 8 = 16 from rfl] at e2
 omega

theorem count_loop : ∀ (m x k : Nat) (c : Nat), x < 2 ^ m → m ≤ 32 → c + m ≤ 32 → m < k → spec_l2Count.l0 k (c : Int) (x : Int) = some ((c + pc m x : Nat) : Int) := by
 intro m
 induction m with
 | zero =>
  intro x k c hx hm hc hk
  obtain ⟨k, rfl⟩ : ∃ q, k = q + 1 := ⟨k - 1, by omega⟩
  obtain rfl : x = 0 := by omega
  simp only [spec_l2Count.l0, pc]
  rw [if_neg (by omega)]
  rfl
 | succ m ih =>
  intro x k c hx hm hc hk
  obtain ⟨k, rfl⟩ : ∃ q, k = q + 1 := ⟨k - 1, by omega⟩
  have hp : 2 ^ (m + 1) ≤ 2 ^ 32 := Nat.pow_le_pow_right (by decide) hm
  have q32 : (2 : Nat) ^ 32 = 4294967296 := by decide
  rw [Nat.pow_succ] at hx
  simp only [spec_l2Count.l0]
  by_cases h0 : x = 0
  ·subst h0
   rw [if_neg (by omega)]
   have ih' := ih 0 (m + 1) c (by have := Nat.two_pow_pos m; omega) (by omega) (by omega) (by omega)
   rw [spec_l2Count.l0, if_neg (by omega)] at ih'
   simp only [Option.some.injEq] at ih'
   simp only [pc, Nat.zero_mod, Nat.zero_div, Nat.zero_add]
   rw [← ih']
  ·rw [if_pos (by omega), and_int (by omega) (by omega) (by omega) (by omega)]
   have e1 : (x : Int).toNat &&& (1 : Int).toNat = x % 2 := by
    rw [Int.toNat_natCast, show (1 : Int).toNat = 1 from rfl, Nat.and_one_is_mod]
   rw [e1, w64 (by omega) (by omega)]
   have ih' := ih (x / 2) k (c + x % 2) (by omega) (by omega) (by omega) (by omega)
   rw [show ((c + x % 2 : Nat) : Int) = (c : Int) + ((x % 2 : Nat) : Int) from by omega, show ((x / 2 : Nat) : Int) = (x : Int) / 2 from by omega] at ih'
   rw [ih', pc]
   simp only [Option.some.injEq]
   omega

def s1 (x : Int) : Int := IntKind.u64.wrap (bits .and .u64 (x / 2) 6148914691236517205 + bits .and .u64 x 6148914691236517205)
def s2 (y : Int) : Int := IntKind.u64.wrap (bits .and .u64 (y / 4) 3689348814741910323 + bits .and .u64 y 3689348814741910323)
def s3 (y : Int) : Int := bits .and .u64 (IntKind.u64.wrap (y / 16 + y)) 1085102592571150095
def s4 (y : Int) : Int := IntKind.u64.wrap (y + y / 256)
def s5 (y : Int) : Int := IntKind.u64.wrap (y + y / 65536)
def s6 (y : Int) : Int := IntKind.u64.wrap (y + y / 4294967296)
theorem ones_steps (x : Int) : bits_OnesCount64.f x = some (bits .and .i64 (wrap64 (s6 (s5 (s4 (s3 (s2 (s1 x))))))) 127) := rfl

theorem s1_is {x : Nat} (hx : x < 2 ^ 62) : s1 (x : Int) = ((t1 x 6148914691236517205 : Nat) : Int) := by
 have a1 : x / 2 &&& 6148914691236517205 ≤ x / 2 := Nat.and_le_left
 have a2 : x &&& 6148914691236517205 ≤ x := Nat.and_le_left
 have h1 := uand_nat (x / 2) 6148914691236517205 (by omega) (by decide)
 have h2 := uand_nat x 6148914691236517205 (by omega) (by decide)
 have h3 := uwrap_nat (t1 x 6148914691236517205) (by unfold t1; omega)
 unfold s1
 rw [show ((x / 2 : Nat) : Int) = (x : Int) / 2 from by omega, show ((6148914691236517205 : Nat) : Int) = 6148914691236517205 from rfl] at h1
 rw [show ((6148914691236517205 : Nat) : Int) = 6148914691236517205 from rfl] at h2
 rw [h1, h2, ← h3]
 congr 1

theorem s2_is {x : Nat} (hx : x < 2 ^ 62) : s2 (x : Int) = ((t2 x 3689348814741910323 : Nat) : Int) := by
 have a1 : x / 4 &&& 3689348814741910323 ≤ x / 4 := Nat.and_le_left
 have a2 : x &&& 3689348814741910323 ≤ x := Nat.and_le_left
 have h1 := uand_nat (x / 4) 3689348814741910323 (by omega) (by decide)
 have h2 := uand_nat x 3689348814741910323 (by omega) (by decide)
 have h3 := uwrap_nat (t2 x 3689348814741910323) (by unfold t2; omega)
 unfold s2
 rw [show ((x / 4 : Nat) : Int) = (x : Int) / 4 from by omega, show ((3689348814741910323 : Nat) : Int) = 3689348814741910323 from rfl] at h1
 rw [show ((3689348814741910323 : Nat) : Int) = 3689348814741910323 from rfl] at h2
 rw [h1, h2, ← h3]
 congr 1

theorem s3_is {x : Nat} (hx : x < 2 ^ 62) : s3 (x : Int) = ((t3 x 1085102592571150095 : Nat) : Int) := by
 have h3 := uwrap_nat (x / 16 + x) (by omega)
 have h1 := uand_nat (x / 16 + x) 1085102592571150095 (by omega) (by decide)
 unfold s3
 rw [show ((x / 16 + x : Nat) : Int) = (x : Int) / 16 + (x : Int) from by omega] at h1 h3
 rw [show ((1085102592571150095 : Nat) : Int) = 1085102592571150095 from rfl] at h1
 rw [h3, h1]
 rfl

theorem ones_is {x : Nat} (hx : x < 2 ^ 32) : bits_OnesCount64.f (x : Int) = some ((pc 32 x : Nat) : Int) := by
 obtain ⟨b3, b2, b1, b0, hx4, h0, h1, h2, h3⟩ : ∃ b3 b2 b1 b0, x = 256 * (256 * (256 * b3 + b2) + b1) + b0 ∧ b0 < 256 ∧ b1 < 256 ∧ b2 < 256 ∧ b3 < 256 :=
  ⟨x / 16777216, x / 65536 % 256, x / 256 % 256, x % 256, by omega, by omega, by omega, by omega, by omega⟩
 have q0 := g1_lt ⟨b0, h0⟩
 have q1 := g1_lt ⟨b1, h1⟩
 have q2 := g1_lt ⟨b2, h2⟩
 have q3 := g1_lt ⟨b3, h3⟩
 have r0 := g2_lt ⟨b0, h0⟩
 have r1 := g2_lt ⟨b1, h1⟩
 have r2 := g2_lt ⟨b2, h2⟩
 have r3 := g2_lt ⟨b3, h3⟩
 have u0 := g_is ⟨b0, h0⟩
 have u1 := g_is ⟨b1, h1⟩
 have u2 := g_is ⟨b2, h2⟩
 have u3 := g_is ⟨b3, h3⟩
 simp only [g] at q0 q1 q2 q3 r0 r1 r2 r3 u0 u1 u2 u3
 have z1 : ∀ m, t1 0 m = 0 := fun m => by simp [t1]
 have z2 : ∀ m, t2 0 m = 0 := fun m => by simp [t2]
 have z3 : ∀ m, t3 0 m = 0 := fun m => by simp [t3]
 have e1 : t1 x 6148914691236517205 = 256 * (256 * (256 * g1 b3 + g1 b2) + g1 b1) + g1 b0 := by
  have l3 := t1_step (a := 0) (b := b3) (m := 1431655765) h3
  rw [z1] at l3
  rw [hx4, show 6148914691236517205 = 256 * (256 * (256 * (256 * 1431655765 + 85) + 85) + 85) + 85 from rfl, t1_step h0, t1_step h1, t1_step h2]
  simp only [Nat.mul_zero, Nat.zero_add] at l3
  rw [l3]
 have e2 : t2 (256 * (256 * (256 * g1 b3 + g1 b2) + g1 b1) + g1 b0) 3689348814741910323 = 256 * (256 * (256 * g2 (g1 b3) + g2 (g1 b2)) + g2 (g1 b1)) + g2 (g1 b0) := by
  have l3 := t2_step (a := 0) (b := g1 b3) (m := 858993459) q3
  rw [z2] at l3
  rw [show 3689348814741910323 = 256 * (256 * (256 * (256 * 858993459 + 51) + 51) + 51) + 51 from rfl, t2_step q0, t2_step q1, t2_step q2]
  simp only [Nat.mul_zero, Nat.zero_add] at l3
  rw [l3]
 have e3 : t3 (256 * (256 * (256 * g2 (g1 b3) + g2 (g1 b2)) + g2 (g1 b1)) + g2 (g1 b0)) 1085102592571150095 = 256 * (256 * (256 * g3 (g2 (g1 b3)) + g3 (g2 (g1 b2))) + g3 (g2 (g1 b1))) + g3 (g2 (g1 b0)) := by
  have l3 := t3_step (a := 0) (b := g2 (g1 b3)) (m := 252645135) (by omega) (by omega)
  rw [z3] at l3
  rw [show 1085102592571150095 = 256 * (256 * (256 * (256 * 252645135 + 15) + 15) + 15) + 15 from rfl, t3_step (by omega) (by omega), t3_step (by omega) (by omega), t3_step (by omega) (by omega)]
  simp only [Nat.mul_zero, Nat.zero_add] at l3
  rw [l3]
 rw [ones_steps, s1_is (by omega), e1, s2_is (by omega), e2, s3_is (by omega), e3]
 rw [pc32 hx4 h0 h1 h2 h3, ← u0.1, ← u1.1, ← u2.1, ← u3.1]
 have v0 := u0.2
 have v1 := u1.2
 have v2 := u2.2
 have v3 := u3.2
 clear e1 e2 e3 z1 z2 z3 u0 u1 u2 u3 q0 q1 q2 q3 r0 r1 r2 r3 hx4
 generalize g3 (g2 (g1 b0)) = p0 at *
 generalize g3 (g2 (g1 b1)) = p1 at *
 generalize g3 (g2 (g1 b2)) = p2 at *
 generalize g3 (g2 (g1 b3)) = p3 at *
 obtain ⟨y, hy⟩ : ∃ y : Nat, y = 256 * (256 * (256 * p3 + p2) + p1) + p0 := ⟨_, rfl⟩
 rw [← hy]
 have f4 : s4 (y : Int) = ((y + y / 256 : Nat) : Int) := by
  have h := uwrap_nat (y + y / 256) (by omega)
  unfold s4
  rw [← h]
  congr 1
 rw [f4]
 obtain ⟨y4, hy4⟩ : ∃ y4 : Nat, y4 = y + y / 256 := ⟨_, rfl⟩
 rw [← hy4]
 have f5 : s5 (y4 : Int) = ((y4 + y4 / 65536 : Nat) : Int) := by
  have h := uwrap_nat (y4 + y4 / 65536) (by omega)
  unfold s5
  rw [← h]
  congr 1
 rw [f5]
 obtain ⟨y5, hy5⟩ : ∃ y5 : Nat, y5 = y4 + y4 / 65536 := ⟨_, rfl⟩
 rw [← hy5]
 have f6 : s6 (y5 : Int) = ((y5 : Nat) : Int) := by
  have h := uwrap_nat y5 (by omega)
  unfold s6
  rw [show (y5 : Int) + (y5 : Int) / 4294967296 = (y5 : Int) from by omega]
  exact h
 rw [f6, w64 (by omega) (by omega), and_int (by omega) (by omega) (by omega) (by omega), Int.toNat_natCast]
 have e7 : y5 &&& (127 : Int).toNat = y5 % 128 := by
  have := Nat.and_two_pow_sub_one_eq_mod y5 7
  exact this
 rw [e7]
 have k1 : y / 256 = 65536 * p3 + 256 * p2 + p1 := by omega
 have k2 : y4 / 65536 = 256 * p3 + p2 + p3 := by omega
 have k3 : y5 = 128 * (131072 * p3 + 512 * (p2 + p3) + 2 * (p1 + p2 + p3)) + (p0 + p1 + p2 + p3) := by omega
 have k4 : y5 % 128 = p0 + p1 + p2 + p3 := by
  rw [k3, Nat.mul_add_mod]
  exact Nat.mod_eq_of_lt (by omega)
 rw [k4]

def Lb (n : Nat) (c : Nat → Nat) : Bool := (List.range n).all fun a => decide (c a < n) && (List.range a).all fun b => c b != c a
def Rb (n : Nat) (c : Nat → Nat) : Bool := (List.range n).all fun v => (List.range n).any fun a => c a == v
def look (a b c d e : Nat) : Nat → Nat
 | 0 => a
 | 1 => b
 | 2 => c
 | 3 => d
 | _ => e

theorem pig5 : ∀ a b c d e : Fin 6, (Lb 5 (look a.val b.val c.val d.val e.val) == Rb 5 (look a.val b.val c.val d.val e.val)) = true := by decide +kernel
theorem pig4 : ∀ (n : Fin 5) (a b c d : Fin 6), (Lb n.val (look a.val b.val c.val d.val 0) == Rb n.val (look a.val b.val c.val d.val 0)) = true := by decide +kernel

theorem Lb_iff (n : Nat) (c : Nat → Nat) : Lb n c = true ↔ ∀ a, a < n → c a < n ∧ ∀ b, b < a → c b ≠ c a := by
 unfold Lb
 simp only [List.all_eq_true, List.mem_range, Bool.and_eq_true, decide_eq_true_eq, bne_iff_ne]

theorem Rb_iff (n : Nat) (c : Nat → Nat) : Rb n c = true ↔ ∀ v, v < n → ∃ a, a < n ∧ c a = v := by
 unfold Rb
 simp only [List.all_eq_true, List.mem_range, List.any_eq_true, beq_iff_eq]

theorem look_at (c : Nat → Nat) {i : Nat} (h : i < 5) : look (c 0) (c 1) (c 2) (c 3) (c 4) i = c i := by
 match i, h with
 | 0, _ => rfl
 | 1, _ => rfl
 | 2, _ => rfl
 | 3, _ => rfl
 | 4, _ => rfl

theorem look_at4 (c : Nat → Nat) {i : Nat} (h : i < 4) : look (c 0) (c 1) (c 2) (c 3) 0 i = c i := by
 match i, h with
 | 0, _ => rfl
 | 1, _ => rfl
 | 2, _ => rfl
 | 3, _ => rfl

theorem pig (n : Nat) (hn : n ≤ 5) (c : Nat → Nat) (hc : ∀ a, c a < 6) : (∀ a, a < n → c a < n ∧ ∀ b, b < a → c b ≠ c a) ↔ ∀ v, v < n → ∃ a, a < n ∧ c a = v := by
 have key : ∀ f : Nat → Nat, (∀ i, i < n → f i = c i) → Lb n f = Rb n f → ((∀ a, a < n → c a < n ∧ ∀ b, b < a → c b ≠ c a) ↔ ∀ v, v < n → ∃ a, a < n ∧ c a = v) := by
  intro f hf h
  have h2 : (Lb n f = true) ↔ (Rb n f = true) := by rw [h]
  rw [Lb_iff, Rb_iff] at h2
  constructor
  ·intro q v hv
   obtain ⟨a, h3, h4⟩ := h2.mp (fun a ha => ⟨by rw [hf a ha]; exact (q a ha).1, fun b hb => by rw [hf a ha, hf b (by omega)]; exact (q a ha).2 b hb⟩) v hv
   exact ⟨a, h3, by rw [← hf a h3]; exact h4⟩
  ·intro q a ha
   have z := h2.mpr (fun v hv => by
    obtain ⟨a, h3, h4⟩ := q v hv
    exact ⟨a, h3, by rw [hf a h3]; exact h4⟩) a ha
   refine ⟨by rw [← hf a ha]; exact z.1, fun b hb => ?_⟩
   rw [← hf a ha, ← hf b (by omega)]
   exact z.2 b hb
 by_cases h5 : n = 5
 ·subst h5
  exact key _ (fun i hi => look_at c hi) (eq_of_beq (pig5 ⟨c 0, hc 0⟩ ⟨c 1, hc 1⟩ ⟨c 2, hc 2⟩ ⟨c 3, hc 3⟩ ⟨c 4, hc 4⟩))
 ·exact key _ (fun i hi => look_at4 c (by omega)) (eq_of_beq (pig4 ⟨n, by omega⟩ ⟨c 0, hc 0⟩ ⟨c 1, hc 1⟩ ⟨c 2, hc 2⟩ ⟨c 3, hc 3⟩))

def code (n : Nat) (x : Int) : Nat := if 0 ≤ x ∧ x ≤ (n : Int) - 1 then x.toNat else n
theorem code_lt (n : Nat) (x : Int) : code n x < n ↔ 0 ≤ x ∧ x ≤ (n : Int) - 1 := by
 unfold code
 split
 ·omega
 ·rename_i h
  constructor
  ·intro q; omega
  ·intro q; exact absurd q h
theorem code_in {n : Nat} {x : Int} (h : 0 ≤ x ∧ x ≤ (n : Int) - 1) : (code n x : Int) = x := by
 unfold code
 rw [if_pos h]
 omega

theorem orders (l : List Int) (n : Nat) (hn : n ≤ 5) (hl : l.length = n) : T l n 0 ↔ ∀ v : Nat, 0 ≤ v → v < n → ∃ a : Nat, a < l.length ∧ rd l a = (v : Int) := by
 have hc : ∀ a, code n (rd l (a : Nat)) < 6 := by
  intro a
  unfold code
  split <;> omega
 have p := pig n hn (fun a => code n (rd l (a : Nat))) hc
 constructor
 ·rintro ⟨q, -⟩ v _ hv
  obtain ⟨a, h1, h2⟩ := p.mp (fun a ha => by
   obtain ⟨z1, z2⟩ := q a (by omega) (by omega)
   refine ⟨(code_lt n _).mpr z1, fun b hb => ?_⟩
   have zb := (q b (by omega) (by omega)).1
   have e1 := code_in z1
   have e2 := code_in zb
   have := z2 b hb
   omega) v hv
  refine ⟨a, by omega, ?_⟩
  have z := (code_lt n (rd l (a : Nat))).mp (by omega)
  have e := code_in z
  omega
 ·intro q
  refine ⟨fun a _ ha => ?_, by omega⟩
  obtain ⟨z1, z2⟩ := p.mpr (fun v hv => by
   obtain ⟨a, h1, h2⟩ := q v (by omega) hv
   refine ⟨a, by omega, ?_⟩
   have e := code_in (n := n) (x := rd l (a : Nat)) (by omega)
   omega) a (by omega)
  have r1 := (code_lt n _).mp z1
  refine ⟨r1, fun b hb he => z2 b hb ?_⟩
  rw [he]


/-! where an order takes an input -/
def mvTo (l : List Int) (x : Nat) : Nat → Nat
 | 0 => 0
 | i + 1 => mvTo l x i ||| (if x.testBit i then 2 ^ (rd l (i : Int)).toNat else 0)
theorem mvTo_bit (l : List Int) (x j : Nat) : ∀ m, (mvTo l x m).testBit j = true ↔ ∃ i, i < m ∧ x.testBit i = true ∧ (rd l (i : Int)).toNat = j
 | 0 => by simp [mvTo]
 | m + 1 => by
  simp only [mvTo, Nat.testBit_or, Bool.or_eq_true, mvTo_bit l x j m, one_bit, Bool.and_eq_true, decide_eq_true_eq]
  constructor
  ·rintro (⟨i, a, b⟩ | ⟨a, b⟩)
   ·exact ⟨i, by omega, b⟩
   ·exact ⟨m, by omega, b, a.symm⟩
  ·rintro ⟨i, a, b, c⟩
   by_cases h : i = m
   ·subst h; exact Or.inr ⟨c.symm, b⟩
   ·exact Or.inl ⟨i, by omega, b, c⟩
theorem mvTo_lt (l : List Int) (x n : Nat) (hr : ∀ i : Nat, i < n → (rd l (i : Int)).toNat < n) : ∀ m, m ≤ n → mvTo l x m < 2 ^ n
 | 0, _ => Nat.two_pow_pos _
 | m + 1, h => by
  simp only [mvTo]
  refine Nat.or_lt_two_pow (mvTo_lt l x n hr m (by omega)) ?_
  cases x.testBit m
  ·exact Nat.two_pow_pos _
  ·exact Nat.pow_lt_pow_right (by decide) (hr m (by omega))
theorem mvTo_inj (l : List Int) (n x y : Nat) (hd : ∀ i j : Nat, i < n → j < n → (rd l (i : Int)).toNat = (rd l (j : Int)).toNat → i = j) (hx : x < 2 ^ n) (hy : y < 2 ^ n) (h : mvTo l x n = mvTo l y n) : x = y := by
 have one : ∀ x y : Nat, mvTo l x n = mvTo l y n → ∀ i, i < n → x.testBit i = true → y.testBit i = true := by
  intro x y h i hi hb
  have h1 := (mvTo_bit l x (rd l (i : Int)).toNat n).2 ⟨i, hi, hb, rfl⟩
  rw [h] at h1
  obtain ⟨j, hj, hbj, e⟩ := (mvTo_bit l y _ n).1 h1
  obtain rfl := hd j i hj hi e
  exact hbj
 apply Nat.eq_of_testBit_eq
 intro i
 by_cases hi : i < n
 ·rw [Bool.eq_iff_iff]
  exact ⟨one x y h i hi, one y x h.symm i hi⟩
 ·have p : 2 ^ n ≤ 2 ^ i := Nat.pow_le_pow_right (by decide) (by omega)
  rw [Nat.testBit_lt_two_pow (by omega), Nat.testBit_lt_two_pow (by omega)]

/-! how many ones -/
theorem pc_count : ∀ (m x : Nat), pc m x = (List.range m).countP x.testBit
 | 0, x => rfl
 | m + 1, x => by
  rw [pc, pc_count m (x / 2), List.range_succ_eq_map, List.countP_cons, List.countP_map]
  have e : (List.range m).countP (x.testBit ∘ Nat.succ) = (List.range m).countP (x / 2).testBit := by
   apply List.countP_congr
   intro j _
   show x.testBit (j + 1) = true ↔ _
   rw [Nat.testBit_succ]
  rw [e, Nat.testBit_zero]
  by_cases h : x % 2 = 1
  ·rw [h]; simp; omega
  ·have : x % 2 = 0 := by omega
   rw [this]; simp
theorem count_over (x M : Nat) (hx : x < 2 ^ M) (hM : M ≤ 32) : pc 32 x = (List.range M).countP x.testBit := by
 rw [pc_count]
 obtain ⟨d, hd⟩ : ∃ d, 32 = M + d := ⟨32 - M, by omega⟩
 rw [hd, List.range_add, List.countP_append]
 have e : ((List.range d).map (M + ·)).countP x.testBit = 0 := by
  rw [List.countP_eq_zero]
  intro j hj
  obtain ⟨q, -, rfl⟩ := List.mem_map.1 hj
  have p : 2 ^ M ≤ 2 ^ (M + q) := Nat.pow_le_pow_right (by decide) (by omega)
  rw [Nat.testBit_lt_two_pow (by omega)]
  decide
 omega
theorem count_set (A q : Nat) (h : A.testBit q = false) : ∀ M, q < M → (List.range M).countP (A ||| 2 ^ q).testBit = (List.range M).countP A.testBit + 1
 | 0, hq => by omega
 | M + 1, hq => by
  rw [List.range_succ, List.countP_append, List.countP_append]
  by_cases e : q = M
  ·subst e
   have c : (List.range q).countP (A ||| 2 ^ q).testBit = (List.range q).countP A.testBit := by
    apply List.countP_congr
    intro j hj
    have := List.mem_range.1 hj
    rw [Nat.testBit_or, Nat.testBit_two_pow, decide_eq_false (by omega), Bool.or_false]
   rw [c]
   simp [h, Nat.testBit_or, Nat.testBit_two_pow]
  ·rw [count_set A q h M (by omega)]
   have c : ([M].countP (A ||| 2 ^ q).testBit) = ([M].countP A.testBit) := by
    apply List.countP_congr
    intro j hj
    have : j = M := by simpa using hj
    subst this
    rw [Nat.testBit_or, Nat.testBit_two_pow, decide_eq_false (by omega), Bool.or_false]
   rw [c]
   omega
/-- The word that holds, at f x, what w holds at x. -/
def orW (f : Nat → Nat) (w : Nat) : Nat → Nat
 | 0 => 0
 | m + 1 => orW f w m ||| (if w.testBit m then 2 ^ f m else 0)
theorem orW_bit (f : Nat → Nat) (w j : Nat) : ∀ m, (orW f w m).testBit j = true ↔ ∃ x, x < m ∧ w.testBit x = true ∧ f x = j
 | 0 => by simp [orW]
 | m + 1 => by
  simp only [orW, Nat.testBit_or, Bool.or_eq_true, orW_bit f w j m, one_bit, Bool.and_eq_true, decide_eq_true_eq]
  constructor
  ·rintro (⟨i, a, b⟩ | ⟨a, b⟩)
   ·exact ⟨i, by omega, b⟩
   ·exact ⟨m, by omega, b, a.symm⟩
  ·rintro ⟨i, a, b, c⟩
   by_cases h : i = m
   ·subst h; exact Or.inr ⟨c.symm, b⟩
   ·exact Or.inl ⟨i, by omega, b, c⟩
theorem orW_lt (f : Nat → Nat) (w M : Nat) (hf : ∀ x, x < M → f x < M) : ∀ m, m ≤ M → orW f w m < 2 ^ M
 | 0, _ => Nat.two_pow_pos _
 | m + 1, h => by
  simp only [orW]
  refine Nat.or_lt_two_pow (orW_lt f w M hf m (by omega)) ?_
  cases w.testBit m
  ·exact Nat.two_pow_pos _
  ·exact Nat.pow_lt_pow_right (by decide) (hf m (by omega))
theorem orW_count (f : Nat → Nat) (w M : Nat) (hf : ∀ x, x < M → f x < M) (hi : ∀ x y, x < M → y < M → f x = f y → x = y) : ∀ m, m ≤ M → (List.range M).countP (orW f w m).testBit = (List.range m).countP w.testBit
 | 0, _ => by
  simp only [orW, List.range_zero, List.countP_nil]
  rw [List.countP_eq_zero]
  intro j _
  simp
 | m + 1, h => by
  rw [List.range_succ, List.countP_append, ← orW_count f w M hf hi m (by omega)]
  simp only [orW]
  cases hb : w.testBit m
  ·simp [hb]
  ·have hno : (orW f w m).testBit (f m) = false := by
    rw [Bool.eq_false_iff]
    intro e
    obtain ⟨x, a, _, c⟩ := (orW_bit f w (f m) m).1 e
    have := hi x m (by omega) (by omega) c
    omega
   simp only [if_true]
   rw [count_set _ _ hno M (hf m (by omega))]
   simp [hb]

/-! the loops -/
theorem moved_at (l : List Int) (n x : Nat) (A w : Int) (hn : n ≤ 5) (hl : l.length = n) (hx : x < 32) (hr : ∀ a : Nat, a < n → 0 ≤ rd l a ∧ rd l a ≤ 4) (hr2 : ∀ a : Nat, a < n → (rd l (a : Int)).toNat < n) : ∀ (d i q : Nat), i + d = n → d < q →
  impl_moved.l0 q (x : Int) (mvTo l x i : Int) l (n : Int) (i : Int) = some (mvTo l x n : Int) ∧ ∀ K, spec_l3Permute.l1 (K + d + 1) l A (x : Int) (mvTo l x i : Int) (i : Int) (n : Int) w = spec_l3Permute.l0 K l (bits .or .i64 A (shl .i64 (bits .and .i64 (shr .i64 w (x : Int)) 1) (mvTo l x n : Int))) ((x : Int) + 1) (n : Int) w := by
 have h5 : 2 ^ n ≤ 2 ^ 5 := Nat.pow_le_pow_right (by decide) hn
 intro d
 induction d with
 | zero =>
  intro i q hi hq
  obtain ⟨q, rfl⟩ : ∃ z, q = z + 1 := ⟨q - 1, by omega⟩
  obtain rfl : i = n := by omega
  refine ⟨?_, ?_⟩
  ·simp only [impl_moved.l0]
   rw [if_neg (by omega)]
  ·intro K
   simp only [Nat.add_zero, spec_l3Permute.l1]
   rw [if_neg (by omega), if_pos (by omega), if_pos (by omega), w64 (by omega) (by omega)]
 | succ d ih =>
  intro i q hi hq
  obtain ⟨q, rfl⟩ : ∃ z, q = z + 1 := ⟨q - 1, by omega⟩
  have hy := mvTo_lt l x n hr2 i (by omega)
  have hri := hr i (by omega)
  obtain ⟨p, hp⟩ := Int.eq_ofNat_of_zero_le hri.1
  have hpe : (rd l (i : Int)).toNat = p := by rw [hp]; rfl
  have ho := or_bit (mvTo l x i) p (x.testBit i) (by omega) (by omega)
  have hm : mvTo l x i ||| (if x.testBit i then 2 ^ p else 0) = mvTo l x (i + 1) := by rw [mvTo, hpe]
  rw [hm] at ho
  obtain ⟨z2, z3⟩ := ih (i + 1) q (by omega) (by omega)
  refine ⟨?_, ?_⟩
  ·simp only [impl_moved.l0]
   rw [if_pos (by omega), if_pos (by omega), if_pos (by omega), if_pos hri.1, shr_is (by omega), bit_is (by omega) (by omega) (by omega) (by omega), w64 (by omega) (by omega), hp]
   simp only [Int.toNat_natCast]
   rw [ho]
   exact z2
  ·intro K
   rw [show K + (d + 1) + 1 = (K + d + 1) + 1 by omega]
   rw [spec_l3Permute.l1, if_pos (by omega), if_pos (by omega), if_pos (by omega), if_pos hri.1, shr_is (w := (x : Int)) (by omega), bit_is (w := (x : Int)) (by omega) (by omega) (by omega) (by omega), w64 (x := (i : Int) + 1) (by omega) (by omega), hp]
   simp only [Int.toNat_natCast]
   rw [ho]
   exact z3 K

theorem permute_at (l : List Int) (n : Nat) (w : Nat) (hn : n ≤ 5) (hl : l.length = n) (w1 : w ≤ 4294967296) (hr : ∀ a : Nat, a < n → 0 ≤ rd l a ∧ rd l a ≤ 4) (hr2 : ∀ a : Nat, a < n → (rd l (a : Int)).toNat < n) : ∀ (d x k q : Nat), x + d = 2 ^ n → 8 * d + 10 ≤ k → d + 10 ≤ q →
  spec_l3Permute.l0 k l (orW (fun x => mvTo l x n) w x : Int) (x : Int) (n : Int) (w : Int) = some ((n : Int), (orW (fun x => mvTo l x n) w (2 ^ n) : Int)) ∧ impl_Table_permute.l0 q l ((2 ^ n : Nat) : Int) (x : Int) (n : Int) (w : Int) (n : Int) (orW (fun x => mvTo l x n) w x : Int) = some ((n : Int), (orW (fun x => mvTo l x n) w (2 ^ n) : Int)) := by
 have h32 := pow_le_32 hn
 have h232 : 2 ^ 2 ^ n ≤ 2 ^ 32 := Nat.pow_le_pow_right (by decide) h32
 have q32 : (2 : Nat) ^ 32 = 4294967296 := by decide
 have hf : ∀ x, x < 2 ^ n → mvTo l x n < 2 ^ n := fun x _ => mvTo_lt l x n hr2 n (Nat.le_refl _)
 intro d
 induction d with
 | zero =>
  intro x k q hx hk hq
  obtain ⟨k, rfl⟩ : ∃ z, k = z + 1 := ⟨k - 1, by omega⟩
  obtain ⟨q, rfl⟩ : ∃ z, q = z + 1 := ⟨q - 1, by omega⟩
  obtain rfl : x = 2 ^ n := by omega
  simp only [spec_l3Permute.l0, impl_Table_permute.l0]
  rw [if_pos (by omega), shl_two_nat hn, if_neg (by omega), if_neg (by omega)]
  exact ⟨rfl, rfl⟩
 | succ d ih =>
  intro x k q hx hk hq
  obtain ⟨K, rfl⟩ : ∃ z, k = (z + n + 1) + 1 := ⟨k - n - 2, by omega⟩
  obtain ⟨q, rfl⟩ : ∃ z, q = z + 1 := ⟨q - 1, by omega⟩
  obtain ⟨z2, z3⟩ := moved_at l n x (orW (fun x => mvTo l x n) w x : Int) (w : Int) hn hl (by omega) hr hr2 n 0 q (by omega) (by omega)
  have hz := hf x (by omega)
  have z2' : impl_moved.f q (x : Int) l = some (mvTo l x n : Int) := by
   unfold impl_moved.f
   rw [hl]
   exact z2
  have hlt : (x : Int) < ((2 ^ n : Nat) : Int) := by exact_mod_cast (show x < 2 ^ n by omega)
  have hA := orW_lt (fun x => mvTo l x n) w (2 ^ n) hf x (by omega)
  have ho := or_bit (orW (fun x => mvTo l x n) w x) (mvTo l x n) (w.testBit x) (by omega) (by omega)
  have hm : orW (fun x => mvTo l x n) w x ||| (if w.testBit x then 2 ^ (mvTo l x n) else 0) = orW (fun x => mvTo l x n) w (x + 1) := rfl
  rw [hm] at ho
  rw [spec_l3Permute.l0, if_pos (by omega), shl_two_nat hn, if_pos hlt]
  have e3 := z3 K
  rw [show ((mvTo l x 0 : Nat) : Int) = 0 from rfl, show ((0 : Nat) : Int) = 0 from rfl] at e3
  rw [e3, impl_Table_permute.l0, if_pos hlt, at_is (by omega) (by omega) (by omega) (by omega), z2', shr_is (by omega), bit_is (by omega) (by omega) (by omega) (by omega), w64 (by omega) (by omega)]
  simp only [Option.bind_some, Int.toNat_natCast]
  rw [if_pos (by omega), ho]
  exact ih (x + 1) K q (by omega) (by omega) (by omega)

theorem ones_at {n W : Nat} (hn : n ≤ 5) (hW : W < 2 ^ 2 ^ n) : impl_CountOnes.f (n : Int) (W : Int) = some (((List.range (2 ^ n)).countP W.testBit : Nat) : Int) := by
 have h32 := pow_le_32 hn
 have h232 : 2 ^ 2 ^ n ≤ 2 ^ 32 := Nat.pow_le_pow_right (by decide) h32
 have q32 : (2 : Nat) ^ 32 = 4294967296 := by decide
 unfold impl_CountOnes.f impl_ones.f
 rw [impl_IsTable_is, isT_nat hn hW]
 simp only [Option.bind_some, if_true]
 rw [uwrap_nat W (by omega), ones_is (by omega)]
 simp only [Option.bind_some]
 rw [count_over W (2 ^ n) hW h32]

theorem permute_law (n w : Int) (l : List Int) (hs : l.length ≤ 1000) (k : Nat) (hk : l.length * (l.length + 3) + l.length + 400 ≤ k) : ∃ q0 q1 is, impl_PermuteTable.f k n w l = some (q0, q1, is) ∧ spec_PermuteTable.f k n w l = some (q0, q1, is) ∧
  (is = false ∨ (is = true ∧ ∃ c, impl_CountOnes.f q0 q1 = some c ∧ impl_CountOnes.f n w = some c)) := by
 unfold spec_PermuteTable.f impl_PermuteTable.f
 simp only [spec_IsTable_is, impl_IsTable_is, Option.bind_some]
 cases h : isT n w
 ·exact ⟨0, 0, false, rfl, rfl, Or.inl rfl⟩
 ·obtain ⟨N, W, rfl, rfl, hN, hW⟩ := isT_nats h
  have h32 := pow_le_32 hN
  have h232 : 2 ^ 2 ^ N ≤ 2 ^ 32 := Nat.pow_le_pow_right (by decide) h32
  have q32 : (2 : Nat) ^ 32 = 4294967296 := by decide
  simp only [if_true]
  obtain ⟨b, b1, b2⟩ := perm_outer l N (by omega) (by omega) (by omega) l.length 0 k (by omega) (by omega)
  have b1' : spec_l3Perm.f k l (N : Int) = some b := b1
  rw [b1']
  unfold impl_isOrder.f
  by_cases hlen : (l.length : Int) = (N : Int)
  ·rw [if_pos hlen]
   have hlen' : l.length = N := by omega
   obtain ⟨c, c1, c2⟩ := order_loop l N (by omega) (by omega) N 0 k (by omega) (by omega)
   have c1' : impl_isOrder.l0 k l (N : Int) 0 = some c := c1
   rw [c1']
   have hbc : b = c := by
    rw [Bool.eq_iff_iff, b2, c2]
    exact orders l N (by omega) hlen'
   subst hbc
   simp only [Option.bind_some]
   cases b
   ·exact ⟨0, 0, false, rfl, rfl, Or.inl rfl⟩
   ·simp only [if_true]
    have hT := b2.mp rfl
    have hr : ∀ a : Nat, a < N → 0 ≤ rd l a ∧ rd l a ≤ 4 := fun a ha => by
     have := (hT.1 a (by omega) (by omega)).1
     omega
    have hr2 : ∀ a : Nat, a < N → (rd l (a : Int)).toNat < N := fun a ha => by
     have := (hT.1 a (by omega) (by omega)).1
     omega
    have hd : ∀ i j : Nat, i < N → j < N → (rd l (i : Int)).toNat = (rd l (j : Int)).toNat → i = j := fun i j hi hj e => by
     have a1 := hT.1 i (by omega) (by omega)
     have a2 := hT.1 j (by omega) (by omega)
     by_cases hij : i = j
     ·exact hij
     ·rcases Nat.lt_or_ge i j with h | h
      ·have := a2.2 i h
       omega
      ·have := a1.2 j (by omega)
       omega
    obtain ⟨r1, r2⟩ := permute_at l N W hN hlen' (by omega) hr hr2 (2 ^ N) 0 k k (by omega) (by omega) (by omega)
    have r1' : spec_l3Permute.f k (N : Int) (W : Int) l = some ((N : Int), (orW (fun x => mvTo l x N) W (2 ^ N) : Int)) := r1
    have r2' : impl_Table_permute.f k (N : Int) (W : Int) l = some ((N : Int), (orW (fun x => mvTo l x N) W (2 ^ N) : Int)) := by
     unfold impl_Table_permute.f
     rw [size_is (by omega) (by omega), two_nat (by omega)]
     exact r2
    rw [r1', r2']
    have hf : ∀ x, x < 2 ^ N → mvTo l x N < 2 ^ N := fun x _ => mvTo_lt l x N hr2 N (Nat.le_refl _)
    refine ⟨_, _, _, rfl, rfl, Or.inr ⟨rfl, _, ones_at hN (orW_lt _ W (2 ^ N) hf (2 ^ N) (Nat.le_refl _)), ?_⟩⟩
    rw [orW_count (fun x => mvTo l x N) W (2 ^ N) hf (fun x y hx hy e => mvTo_inj l N x y hd hx hy e) (2 ^ N) (Nat.le_refl _)]
    exact ones_at hN hW
  ·rw [if_neg hlen]
   have hb : b = false := by
    cases b
    ·rfl
    ·exact absurd (b2.mp rfl).2 hlen
   subst hb
   exact ⟨0, 0, false, rfl, rfl, Or.inl rfl⟩

end Go.Proofs.Ytijpcemcijaeeaa.Rfc

namespace Go.Proofs.Ytijpcemcijaeeaa.Rfd
set_option linter.unusedVariables false
set_option linter.unusedSimpArgs false
open Go Go.RowKit Go.Proofs.Ytijpcemcijaeeaa.P Go.Proofs.Ytijpcemcijaeeaa.Bits Go.Proofs.Ytijpcemcijaeeaa.Tab Go.Proofs.Ytijpcemcijaeeaa.Rf Go.Proofs.YtijpcemcijaeeaaW.PrintWords Go.Proofs.YtijpcemcijaeeaaW.PrintLast Go.Proofs.YtijpcemcijaeeaaW.PrintMore

theorem join_loop (n i : Nat) (w u : Int) (hn : n ≤ 4) (hi : i ≤ 4) (w0 : 0 ≤ w) (w1 : w ≤ 4294967296) (u0 : 0 ≤ u) (u1 : u ≤ 4294967296) : ∀ (d j k A : Nat), j + d = 2 ^ n → d < k → A < 2 ^ 32 →
  ∃ r, spec_JoinTables.l0 k (i : Int) (A : Int) (j : Int) (n : Int) w (n : Int) u = some r ∧ impl_JoinTables.l0 k (i : Int) ((2 ^ n : Nat) : Int) (j : Int) (n : Int) w (n : Int) u ((n : Int) + 1) (A : Int) = some r := by
 have h16 : 2 ^ n ≤ 16 := by
  have := Nat.pow_le_pow_right (show 0 < 2 by decide) hn
  omega
 intro d
 induction d with
 | zero =>
  intro j k A hj hk hA
  obtain ⟨k, rfl⟩ : ∃ q, k = q + 1 := ⟨k - 1, by omega⟩
  obtain rfl : j = 2 ^ n := by omega
  simp only [spec_JoinTables.l0, impl_JoinTables.l0]
  rw [if_pos (by omega), shl_two_nat (by omega), if_neg (by omega), if_neg (by omega), w64 (by omega) (by omega)]
  exact ⟨_, rfl, rfl⟩
 | succ d ih =>
  intro j k A hj hk hA
  obtain ⟨k, rfl⟩ : ∃ q, k = q + 1 := ⟨k - 1, by omega⟩
  have s0 := spread31 (show j < 16 by omega) hi (show 0 ≤ 1 by omega)
  have s1 := spread31 (show j < 16 by omega) hi (show 1 ≤ 1 by omega)
  have i0 := insert_is (show j < 32 by omega) (show i ≤ 5 by omega) (show 0 ≤ 1 by omega)
  have i1 := insert_is (show j < 32 by omega) (show i ≤ 5 by omega) (show 1 ≤ 1 by omega)
  have p0 := spread_is j i 0 (by omega) (by omega) (by omega)
  have p1 := spread_is j i 1 (by omega) (by omega) (by omega)
  have b0 := bit32 (w.toNat.testBit j) s0
  have b1 := bit32 (u.toNat.testBit j) s1
  have q : (2 : Nat) ^ 32 ≤ 2 ^ 63 := by decide
  have o1 := or_bit A (spreadN j i 0) (w.toNat.testBit j) (by omega) (by omega)
  have hA1 := Nat.or_lt_two_pow hA b0
  have o2 := or_bit (A ||| (if w.toNat.testBit j then 2 ^ (spreadN j i 0) else 0)) (spreadN j i 1) (u.toNat.testBit j) (by omega) (by omega)
  have hA2 := Nat.or_lt_two_pow hA1 b1
  have hB := Nat.or_lt_two_pow b0 b1
  have o3 : bits .or .i64 (shl .i64 (((w.toNat.testBit j).toNat : Nat) : Int) ((spreadN j i 0 : Nat) : Int)) (shl .i64 (((u.toNat.testBit j).toNat : Nat) : Int) ((spreadN j i 1 : Nat) : Int)) = (((if w.toNat.testBit j then 2 ^ (spreadN j i 0) else 0) ||| (if u.toNat.testBit j then 2 ^ (spreadN j i 1) else 0) : Nat) : Int) := by
   rw [shl_bit _ (by omega), shl_bit _ (by omega)]
   exact or_nat _ _ (by omega) (by omega)
  have o4 := or_nat A ((if w.toNat.testBit j then 2 ^ (spreadN j i 0) else 0) ||| (if u.toNat.testBit j then 2 ^ (spreadN j i 1) else 0)) (by omega) (by omega)
  rw [← Nat.or_assoc] at o4
  simp only [spec_JoinTables.l0, impl_JoinTables.l0]
  rw [if_pos (by omega), shl_two_nat (by omega), if_pos (by omega), if_pos (by omega), if_pos (by omega)]
  rw [at_is w0 (by omega) (by omega) (by omega), at_is u0 (by omega) (by omega) (by omega)]
  simp only [Int.toNat_natCast]
  rw [show ((0 : Nat) : Int) = 0 from rfl] at i0 p0
  rw [show ((1 : Nat) : Int) = 1 from rfl] at i1 p1
  rw [i0, i1, p0, p1]
  simp only [Option.bind_some]
  rw [if_pos (by omega), if_pos (by omega), if_pos (by omega), if_pos (by omega), shr_is (by omega), shr_is (by omega), bit_is w0 (by omega) (by omega) (by omega), bit_is u0 (by omega) (by omega) (by omega), Int.toNat_natCast, o1, o2, o3, o4, w64 (by omega) (by omega)]
  exact ih (j + 1) k _ (by omega) (by omega) hA2

theorem join_both (n w m u i : Int) (K : Nat) (hK : 40 ≤ K) : ∃ r, spec_JoinTables.f (K + 1) n w m u i = some r ∧ impl_JoinTables.f (K + 1) n w m u i = some r := by
 unfold spec_JoinTables.f impl_JoinTables.f spec_l2Fit.f impl_areTables.f
 simp only [Option.bind_some, spec_IsTable_is, impl_IsTable_is]
 cases h : isT n w
 ·exact ⟨_, rfl, rfl⟩
 ·cases g : isT m u
  ·exact ⟨_, rfl, rfl⟩
  ·obtain ⟨h0, h5, hw, hl⟩ := isT_yes h
   obtain ⟨g0, g5, gw, gl⟩ := isT_yes g
   have hl2 := lim_le n
   have gl2 := lim_le m
   simp only [if_true, Option.bind_some]
   by_cases hnm : n = m
   ·subst hnm
    simp only [beq_self_eq_true, if_true]
    by_cases h5' : n = 5
    ·rw [if_pos h5', if_pos (by omega)]
     exact ⟨_, rfl, rfl⟩
    ·rw [if_neg h5', if_neg (by omega), l1In_is]
     simp only [Option.bind_some]
     by_cases hi : 0 ≤ i ∧ i ≤ n
     ·rw [decide_eq_true hi, if_neg (by omega), decide_eq_false (show ¬ i > n by omega)]
      obtain ⟨N, rfl⟩ := Int.eq_ofNat_of_zero_le h0
      obtain ⟨I, rfl⟩ := Int.eq_ofNat_of_zero_le hi.1
      have h16 : 2 ^ N ≤ 16 := by
       have := Nat.pow_le_pow_right (show 0 < 2 by decide) (show N ≤ 4 by omega)
       omega
      obtain ⟨r, j1, j2⟩ := join_loop N I w u (by omega) (by omega) hw (by omega) gw (by omega) (2 ^ N) 0 K 0 (by omega) (by omega) (by decide)
      refine ⟨r, ?_, ?_⟩
      ·simp only [Bool.not_true, spec_JoinTables.j0, Bool.false_eq_true, if_false]
       exact j1
      ·simp only [impl_JoinTables.j0, Bool.false_eq_true, if_false]
       rw [size_is h0 h5, two_nat (by omega), w64 (by omega) (by omega)]
       exact j2
     ·rw [decide_eq_false hi]
      by_cases hneg : i < 0
      ·rw [if_pos hneg]
       exact ⟨_, rfl, rfl⟩
      ·rw [if_neg hneg, decide_eq_true (show i > n by omega)]
       exact ⟨_, rfl, rfl⟩
   ·rw [show (n == m) = false from beq_eq_false_iff_ne.mpr hnm]
    exact ⟨_, rfl, rfl⟩

theorem depends_both (n w i : Int) (K : Nat) (hK : 40 ≤ K) : ∃ r, impl_DependsOn.f n w i = some r ∧ spec_DependsOn.f K n w i = some r := by
 suffices h : impl_DependsOn.f n w i = spec_DependsOn.f K n w i ∧ (impl_DependsOn.f n w i).isSome = true by
  obtain ⟨r, hr⟩ := Option.isSome_iff_exists.1 h.2
  exact ⟨r, hr, by rw [← h.1]; exact hr⟩
 unfold spec_DependsOn.f impl_DependsOn.f
 simp only [Option.bind_some, spec_IsTable_is, hasVariable_is]
 cases h : isT n w
 ·simp
 ·obtain ⟨h0, h5, hw, hl⟩ := isT_yes h
  have hl2 := lim_le n
  simp only [if_true, Bool.true_and]
  rw [w64 (by omega) (by omega), l1In_is]
  have e : decide (0 ≤ i ∧ i < n) = decide (0 ≤ i ∧ i ≤ n - 1) := by
   rw [decide_eq_decide]
   omega
  rw [e]
  by_cases hx : 0 ≤ i ∧ i ≤ n - 1
  ·rw [decide_eq_true hx]
   simp only [Option.bind_some, if_true]
   rw [depends_spec (by omega) h5 hw (by omega) hx.1 (by omega) (by omega), depends_impl (by omega) h5 hw (by omega) hx.1 (by omega)]
   simp
  ·rw [decide_eq_false hx]
   simp


theorem seen_mono (w m v : Nat) (b : Bool) : ∀ (d a : Nat), seenB w m v b a = true → seenB w m v b (a + d) = true := by
 intro d
 induction d with
 | zero => exact fun a h => h
 | succ d ih =>
  intro a h
  rw [← Nat.add_assoc, seenB, ih a h, Bool.true_or]

def acc (t f : Bool) : Int := if t then 1 else if f then 0 else -1

theorem cube_loop (n m v : Nat) (w : Int) (hn : n ≤ 5) (hm : m < 32) (hv : v < 32) (w0 : 0 ≤ w) (w1 : w ≤ 4294967296) : ∀ (d j k : Nat), j + d = 2 ^ n → d < k → (seenB w.toNat m v true j && seenB w.toNat m v false j) = false →
  spec_l3Cube.l0 k (m : Int) (v : Int) (acc (seenB w.toNat m v true j) (seenB w.toNat m v false j)) (j : Int) (n : Int) w = some (if seenB w.toNat m v false (2 ^ n) && seenB w.toNat m v true (2 ^ n) then 2 else acc (seenB w.toNat m v true (2 ^ n)) (seenB w.toNat m v false (2 ^ n))) := by
 have h32 := pow_le_32 hn
 intro d
 induction d with
 | zero =>
  intro j k hj hk hno
  obtain ⟨k, rfl⟩ : ∃ q, k = q + 1 := ⟨k - 1, by omega⟩
  obtain rfl : j = 2 ^ n := by omega
  simp only [spec_l3Cube.l0]
  rw [if_pos (by omega), shl_two_nat hn, if_neg (by omega), Bool.and_comm, hno]
  simp
 | succ d ih =>
  intro j k hj hk hno
  obtain ⟨k, rfl⟩ : ∃ q, k = q + 1 := ⟨k - 1, by omega⟩
  have ih' := ih (j + 1) k (by omega) (by omega)
  have m1 := seen_mono w.toNat m v true d (j + 1)
  have m2 := seen_mono w.toNat m v false d (j + 1)
  rw [show j + 1 + d = 2 ^ n by omega] at m1 m2
  simp only [spec_l3Cube.l0]
  rw [if_pos (by omega), shl_two_nat hn, if_pos (by omega), and_int (by omega) (by omega) (by omega) (by omega), Int.toNat_natCast, Int.toNat_natCast, shr_is (by omega), bit_is w0 (by omega) (by omega) (by omega), Int.toNat_natCast, w64 (by omega) (by omega)]
  rw [show ((j + 1 : Nat) : Int) = (j : Int) + 1 from by omega] at ih'
  simp only [seenB] at ih' m1 m2
  by_cases hc : j &&& m = v
  ·rw [if_pos (by omega), if_pos (by omega)]
   rw [decide_eq_true hc] at ih' m1 m2
   revert ih' m1 m2 hno
   generalize seenB w.toNat m v true j = t
   generalize seenB w.toNat m v false j = f
   generalize seenB w.toNat m v true (2 ^ n) = T
   generalize seenB w.toNat m v false (2 ^ n) = F
   cases w.toNat.testBit j <;> cases t <;> cases f <;> intro hno ih' m1 m2 <;> simp [acc] at hno ih' m1 m2 ⊢ <;> simp_all
  ·rw [if_neg (by omega)]
   rw [decide_eq_false hc] at ih'
   simp only [Bool.false_and, Bool.or_false] at ih'
   exact ih' hno

theorem cube_both (n w m v : Int) (hv63 : v ≤ 9223372036854775807) (K : Nat) (hK : 40 ≤ K) : ∃ r, impl_CubeValue.f n w m v = some r ∧ spec_CubeValue.f K n w m v = some r := by
 suffices h : spec_CubeValue.f K n w m v = impl_CubeValue.f n w m v ∧ (spec_CubeValue.f K n w m v).isSome = true by
  obtain ⟨r, hr⟩ := Option.isSome_iff_exists.1 h.2
  exact ⟨r, by rw [← h.1]; exact hr, hr⟩
 unfold spec_CubeValue.f impl_CubeValue.f impl_isCube.f impl_hasInput.f
 simp only [Option.bind_some, spec_IsTable_is, impl_IsTable_is]
 cases h : isT n w
 ·simp
 ·obtain ⟨h0, h5, hw, hl⟩ := isT_yes h
  have hl2 := lim_le n
  have ht2 := two_le n
  simp only [if_true]
  rw [if_pos h0, two_at h0 h5, l1In_is, l1In_is, impl_isInput_is h0 h5]
  have e : decide (0 ≤ m ∧ m < two n) = decide (0 ≤ m ∧ m ≤ two n - 1) := by
   rw [decide_eq_decide]
   omega
  rw [e]
  by_cases hm : 0 ≤ m ∧ m ≤ two n - 1
  ·rw [decide_eq_true hm]
   simp only [Option.bind_some, if_true]
   by_cases hv : v ≥ 0
   ·rw [if_pos hv]
    rw [andNot_int hv hv63 hm.1 (by omega), and_int hv hv63 hm.1 (by omega)]
    by_cases hs : v.toNat &&& m.toNat = v.toNat
    ·have hle : v.toNat &&& m.toNat ≤ m.toNat := Nat.and_le_right
     rw [decide_eq_true (show 0 ≤ v ∧ v ≤ m by omega)]
     simp only [Option.bind_some, if_true, hs, Nat.xor_self]
     rw [if_pos (by omega)]
     obtain ⟨N, rfl⟩ := Int.eq_ofNat_of_zero_le h0
     obtain ⟨M, rfl⟩ := Int.eq_ofNat_of_zero_le hm.1
     obtain ⟨V, rfl⟩ := Int.eq_ofNat_of_zero_le hv
     have h32 := pow_le_32 (show N ≤ 5 by omega)
     have hb := two_nat (show N ≤ 5 by omega)
     have hc := cube_loop N M V w (by omega) (by omega) (by omega) hw (by omega) (2 ^ N) 0 K (by omega) (by omega) rfl
     have hc' : spec_l3Cube.f K (N : Int) w (M : Int) (V : Int) = _ := hc
     rw [hc']
     have hi : impl_Table_cube.f (N : Int) w (M : Int) (V : Int) = some (cubeV w.toNat M V (2 ^ N)) := by
      unfold impl_Table_cube.f
      rw [if_pos ⟨h0, h5, hw, by omega, by omega, by omega, by omega, by omega⟩, Int.toNat_natCast, Int.toNat_natCast, Int.toNat_natCast]
     rw [hi]
     simp only [Int.toNat_natCast] at hs hle ⊢
     rw [hs] at hle
     have hsome : (seenB w.toNat M V true (2 ^ N) || seenB w.toNat M V false (2 ^ N)) = true := by
      have hVlt : V + 1 ≤ 2 ^ N := by omega
      have h1 := seen_mono w.toNat M V true (2 ^ N - (V + 1)) (V + 1)
      have h2 := seen_mono w.toNat M V false (2 ^ N - (V + 1)) (V + 1)
      rw [show V + 1 + (2 ^ N - (V + 1)) = 2 ^ N by omega] at h1 h2
      simp only [seenB, decide_eq_true hs, Bool.true_and] at h1 h2
      cases hbit : w.toNat.testBit V
      ·rw [h2 (by rw [hbit]; simp), Bool.or_true]
      ·rw [h1 (by rw [hbit]; simp), Bool.true_or]
     revert hsome
     unfold cubeV acc
     cases seenB w.toNat M V true (2 ^ N) <;> cases seenB w.toNat M V false (2 ^ N) <;> simp
    ·have hx : ¬ (v.toNat ^^^ (v.toNat &&& m.toNat) = 0) := fun q => hs (xor_zero.mp q).symm
     have e1 : (((v.toNat ^^^ (v.toNat &&& m.toNat) : Nat) : Int) == 0) = false := by
      rw [beq_eq_false_iff_ne]
      omega
     rw [e1, if_neg (show ¬ (((v.toNat &&& m.toNat : Nat) : Int) = v) by omega)]
     by_cases hvm : 0 ≤ v ∧ v ≤ m
     ·rw [decide_eq_true hvm]; simp
     ·rw [decide_eq_false hvm]; simp
   ·rw [if_neg hv, decide_eq_false (show ¬ (0 ≤ v ∧ v ≤ m) by omega)]
    simp
  ·rw [decide_eq_false hm]
   simp


end Go.Proofs.Ytijpcemcijaeeaa.Rfd
