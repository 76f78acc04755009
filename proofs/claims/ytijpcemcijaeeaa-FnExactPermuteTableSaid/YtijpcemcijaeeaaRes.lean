/- What the reference's loops over tables come to, as words that are told bit by bit: variables, restrictions, shifts. Conditions: the bounds that stand in each. -/
import Derived.Test.YtijpcemcijaeeaaTab
import Derived.Test.YtijpcemcijaeeaaSpr
import Derived.Test.YtijpcemcijaeeaaGmr
import Derived.Test.YtijpcemcijaeeaaPa0
import Derived.Test.YtijpcemcijaeeaaPa1
import Derived.Test.YtijpcemcijaeeaaPb0
namespace Go.Proofs.Ytijpcemcijaeeaa.Tab
set_option linter.unusedVariables false
set_option linter.unusedSimpArgs false
open Go Go.RowKit Go.Proofs.Ytijpcemcijaeeaa.P Go.Proofs.Ytijpcemcijaeeaa.Bits Go.Proofs.YtijpcemcijaeeaaW.PrintWords Go.Proofs.YtijpcemcijaeeaaW.PrintLast Go.Proofs.YtijpcemcijaeeaaW.PrintMore

theorem shl_one_nat {i : Nat} (hi : i ≤ 62) : shl .i64 1 (i : Int) = ((2 ^ i : Nat) : Int) := by
  unfold shl
  rw [Nat.min_eq_left (by simp [IntKind.bits]; omega), Int.toNat_natCast, Int.one_mul]
  have : ((2 : Int) ^ i) = ((2 ^ i : Nat) : Int) := by push_cast; rfl
  rw [this]
  exact wrap_nat _ (Nat.pow_lt_pow_right (by decide) (by omega))

theorem shl_zero_nat (i : Nat) : shl .i64 0 (i : Int) = 0 := by
  unfold shl
  rw [Int.zero_mul]
  rfl

theorem shl_bit (b : Bool) {i : Nat} (hi : i ≤ 62) : shl .i64 ((b.toNat : Nat) : Int) (i : Int) = ((if b then 2 ^ i else 0 : Nat) : Int) := by
  cases b
  · exact shl_zero_nat i
  · exact shl_one_nat hi

theorem or_bit (x i : Nat) (b : Bool) (hx : x < 2 ^ 63) (hi : i ≤ 62) : bits .or .i64 (x : Int) (shl .i64 ((b.toNat : Nat) : Int) (i : Int)) = ((x ||| (if b then 2 ^ i else 0) : Nat) : Int) := by
  rw [shl_bit b hi]
  refine or_nat _ _ hx ?_
  cases b
  · show (0 : Nat) < 2 ^ 63; decide
  · exact Nat.pow_lt_pow_right (by decide) (by omega)

theorem word63 (p : Nat → Bool) {m : Nat} (hm : m ≤ 63) : wordOf p m < 2 ^ 63 := Nat.lt_of_lt_of_le (wordOf_lt p m) (Nat.pow_le_pow_right (by decide) hm)

theorem or_word (p : Nat → Bool) {i : Nat} (hi : i ≤ 62) : bits .or .i64 ((wordOf p i : Nat) : Int) (shl .i64 (((p i).toNat : Nat) : Int) (i : Int)) = ((wordOf p (i + 1) : Nat) : Int) := by
  rw [or_bit _ _ _ (word63 p (by omega)) hi]
  rfl

theorem shl_two_nat {n : Nat} (hn : n ≤ 5) : shl .i64 1 (n : Int) = ((2 ^ n : Nat) : Int) := shl_one_nat (by omega)
theorem two_nat {n : Nat} (hn : n ≤ 5) : two (n : Int) = ((2 ^ n : Nat) : Int) := by rw [← shl_two (by omega) (by omega), shl_two_nat hn]
theorem pow_le_32 {n : Nat} (hn : n ≤ 5) : 2 ^ n ≤ 32 := by
  have := Nat.pow_le_pow_right (show 0 < 2 by decide) hn
  omega

/-! variables -/
theorem variable_loop (n i : Nat) (hn : n ≤ 5) (hi : i ≤ 5) : ∀ (d j k : Nat), j + d = 2 ^ n → d < k →
    spec_l2Variable.l0 k (n : Int) (i : Int) ((wordOf (fun x => x.testBit i) j : Nat) : Int) (j : Int) = some ((wordOf (fun x => x.testBit i) (2 ^ n) : Nat) : Int) := by
  have h32 := pow_le_32 hn
  intro d
  induction d with
  | zero =>
    intro j k hj hk
    obtain ⟨k, rfl⟩ : ∃ q, k = q + 1 := ⟨k - 1, by omega⟩
    obtain rfl : j = 2 ^ n := by omega
    simp only [spec_l2Variable.l0]
    rw [if_pos (by omega), shl_two_nat hn, if_neg (by omega)]
  | succ d ih =>
    intro j k hj hk
    obtain ⟨k, rfl⟩ : ∃ q, k = q + 1 := ⟨k - 1, by omega⟩
    simp only [spec_l2Variable.l0]
    rw [if_pos (by omega), shl_two_nat hn, if_pos (by omega), if_pos (by omega), shr_is (by omega), bit_is (by omega) (by omega) (by omega) (by omega), Int.toNat_natCast, Int.toNat_natCast, w64 (by omega) (by omega)]
    have ih' := ih (j + 1) k (by omega) (by omega)
    rw [show ((j + 1 : Nat) : Int) = (j : Int) + 1 from by omega] at ih'
    have o := or_word (fun x => x.testBit i) (i := j) (by omega)
    cases hb : j.testBit i
    · rw [if_neg (by simp)]
      simp only [wordOf, hb] at ih'
      simpa using ih'
    · rw [if_pos (by simp), if_pos (by omega)]
      simp only [hb] at o
      rw [show (((true : Bool).toNat : Nat) : Int) = 1 from rfl] at o
      rw [o]
      exact ih'

/-! restrictions -/
def chkInsert (x i b : Nat) : Bool := spec_l3Insert.f (x : Int) (i : Int) (b : Int) == some ((spreadN x i b : Nat) : Int)
theorem chkInsert_all : ∀ (x : Fin 32) (i : Fin 6) (b : Fin 2), chkInsert x.val i.val b.val = true := by decide +kernel
theorem insert_is {x i b : Nat} (hx : x < 32) (hi : i ≤ 5) (hb : b ≤ 1) : spec_l3Insert.f (x : Int) (i : Int) (b : Int) = some ((spreadN x i b : Nat) : Int) :=
  eq_of_beq (chkInsert_all ⟨x, hx⟩ ⟨i, by omega⟩ ⟨b, by omega⟩)

def resW (w i b : Int) (n : Nat) : Nat := wordOf (fun x => w.toNat.testBit (spreadN x i.toNat b.toNat)) (2 ^ n)

theorem restrict_loop (n i b : Nat) (w : Int) (hn : n ≤ 4) (hi : i ≤ 5) (hb : b ≤ 1) (w0 : 0 ≤ w) (w1 : w ≤ 4294967296) : ∀ (d j k : Nat), j + d = 2 ^ n → d < k →
    spec_l3Restrict.l0 k (i : Int) (b : Int) ((wordOf (fun x => w.toNat.testBit (spreadN x i b)) j : Nat) : Int) (j : Int) ((n : Int) + 1) w = some ((n : Int), ((wordOf (fun x => w.toNat.testBit (spreadN x i b)) (2 ^ n) : Nat) : Int)) := by
  have h32 := pow_le_32 (show n ≤ 5 by omega)
  have e1 : wrap64 ((n : Int) + 1 - 1) = (n : Int) := by rw [w64 (by omega) (by omega)]; omega
  intro d
  induction d with
  | zero =>
    intro j k hj hk
    obtain ⟨k, rfl⟩ : ∃ q, k = q + 1 := ⟨k - 1, by omega⟩
    obtain rfl : j = 2 ^ n := by omega
    simp only [spec_l3Restrict.l0]
    rw [e1, if_pos (by omega), shl_two_nat (by omega), if_neg (by omega)]
  | succ d ih =>
    intro j k hj hk
    obtain ⟨k, rfl⟩ : ∃ q, k = q + 1 := ⟨k - 1, by omega⟩
    have hs := spreadN_lt j i b (by omega) hi hb
    simp only [spec_l3Restrict.l0]
    rw [e1, if_pos (by omega), shl_two_nat (by omega), if_pos (by omega), insert_is (by omega) hi hb]
    simp only [Option.bind_some]
    rw [if_pos (by omega), if_pos (by omega), shr_is (by omega), bit_is w0 (by omega) (by omega) (by omega), Int.toNat_natCast, w64 (by omega) (by omega)]
    have ih' := ih (j + 1) k (by omega) (by omega)
    rw [show ((j + 1 : Nat) : Int) = (j : Int) + 1 from by omega] at ih'
    rw [← or_word (fun x => w.toNat.testBit (spreadN x i b)) (i := j) (by omega)] at ih'
    exact ih'

theorem restrict_spec {n w i b : Int} (n1 : 1 ≤ n) (n5 : n ≤ 5) (w0 : 0 ≤ w) (w1 : w ≤ 4294967296) (i0 : 0 ≤ i) (i5 : i ≤ 5) (b0 : 0 ≤ b) (b1 : b ≤ 1) {k : Nat} (hk : 16 < k) :
    spec_l3Restrict.f k n w i b = some (n - 1, ((resW w i b (n - 1).toNat : Nat) : Int)) := by
  obtain ⟨N, hN⟩ := Int.eq_ofNat_of_zero_le (show 0 ≤ n - 1 by omega)
  obtain ⟨I, rfl⟩ := Int.eq_ofNat_of_zero_le i0
  obtain ⟨B, rfl⟩ := Int.eq_ofNat_of_zero_le b0
  obtain rfl : n = (N : Int) + 1 := by omega
  have h16 : 2 ^ N ≤ 16 := by
    have := Nat.pow_le_pow_right (show 0 < 2 by decide) (show N ≤ 4 by omega)
    omega
  have h := restrict_loop N I B w (by omega) (by omega) (by omega) w0 w1 (2 ^ N) 0 k (by omega) (by omega)
  unfold spec_l3Restrict.f resW
  rw [hN, Int.toNat_natCast, Int.toNat_natCast, Int.toNat_natCast]
  exact h

theorem restrict_impl {n w i b : Int} (n1 : 1 ≤ n) (n5 : n ≤ 5) (w0 : 0 ≤ w) (w1 : w ≤ 4294967296) (i0 : 0 ≤ i) (i5 : i ≤ 5) (b0 : 0 ≤ b) (b1 : b ≤ 1) :
    impl_Table_restrict.f n w i b = some (n - 1, ((resW w i b (n - 1).toNat : Nat) : Int)) := by
  unfold impl_Table_restrict.f resW
  rw [if_pos ⟨n1, n5, w0, w1, i0, i5, b0, b1⟩]

theorem resW_lt (w i b : Int) {n : Nat} (hn : n ≤ 4) : resW w i b n < lim (n : Int) := by
  have h := wordOf_lt (fun x => w.toNat.testBit (spreadN x i.toNat b.toNat)) (2 ^ n)
  have e := lim_two (n := (n : Int)) (by omega) (by omega)
  rw [two_nat (by omega), Int.toNat_natCast] at e
  rw [e]
  unfold resW
  exact_mod_cast h

/-! whether a table depends on a variable -/
def depB (n w i : Int) : Bool := resW w i 0 (n - 1).toNat != resW w i 1 (n - 1).toNat

theorem depends_spec {n w i : Int} (n1 : 1 ≤ n) (n5 : n ≤ 5) (w0 : 0 ≤ w) (w1 : w ≤ 4294967296) (i0 : 0 ≤ i) (i5 : i ≤ 5) {k : Nat} (hk : 16 < k) : spec_l3Depends.f k n w i = some (depB n w i) := by
  unfold spec_l3Depends.f
  rw [restrict_spec n1 n5 w0 w1 i0 i5 (by decide) (by decide) hk]
  simp only [Option.bind_some]
  rw [restrict_spec n1 n5 w0 w1 i0 i5 (by decide) (by decide) hk]
  simp only [Option.bind_some, depB]
  congr 1
  rw [Bool.eq_iff_iff]
  simp only [bne_iff_ne, ne_eq]
  omega

theorem depends_impl {n w i : Int} (n1 : 1 ≤ n) (n5 : n ≤ 5) (w0 : 0 ≤ w) (w1 : w ≤ 4294967296) (i0 : 0 ≤ i) (i5 : i ≤ 5) : impl_Table_depends.f n w i = some (depB n w i) := by
  unfold impl_Table_depends.f
  rw [restrict_impl n1 n5 w0 w1 i0 i5 (by decide) (by decide)]
  simp only [Option.bind_some]
  rw [restrict_impl n1 n5 w0 w1 i0 i5 (by decide) (by decide)]
  simp only [Option.bind_some, depB, beq_self_eq_true, Bool.not_true, Bool.false_or]
  congr 1
  rw [Bool.eq_iff_iff]
  simp only [bne_iff_ne, ne_eq, Bool.not_eq_true', beq_eq_false_iff_ne]
  omega

theorem hasVariable_is (n w i : Int) : impl_hasVariable.f n w i = some (isT n w && decide (0 ≤ i ∧ i < n)) := by
  unfold impl_hasVariable.f
  rw [impl_IsTable_is]
  cases isT n w
  · rfl
  · simp only [Option.bind_some, if_true, Bool.true_and]
    by_cases h : i ≥ 0
    · rw [if_pos h]; simp [h]
    · rw [if_neg h]; simp [h]
end Go.Proofs.Ytijpcemcijaeeaa.Tab
