/- The words that come from a table of few variables: what the program's and the law's own steps tell. Conditions: the bounds that stand in each. -/
import Derived.Test.YtijpcemcijaeeaaGim
import Derived.Test.YtijpcemcijaeeaaTab
import Derived.Test.YtijpcemcijaeeaaTabNot
import Derived.Test.YtijpcemcijaeeaaShf
import Derived.Test.YtijpcemcijaeeaaRes0
import Derived.Test.YtijpcemcijaeeaaGms
import Derived.Test.YtijpcemcijaeeaaPy1
namespace Go.Proofs.Ytijpcemcijaeeaa.Tab
set_option linter.unusedVariables false
set_option linter.unusedSimpArgs false
open Go Go.RowKit Go.Proofs.Ytijpcemcijaeeaa.P Go.Proofs.Ytijpcemcijaeeaa.Bits Go.Proofs.YtijpcemcijaeeaaW.PrintWords Go.Proofs.YtijpcemcijaeeaaW.PrintLast Go.Proofs.YtijpcemcijaeeaaW.PrintMore

theorem moved_loop (l : List Int) (n x : Nat) (A w : Int) (hn : n ≤ 5) (hl : l.length = n) (hx : x < 32) (hr : ∀ a : Nat, a < n → 0 ≤ rd l a ∧ rd l a ≤ 4) : ∀ (d i q y : Nat), i + d = n → y < 2 ^ 5 → d < q →
    ∃ z : Nat, z < 2 ^ 5 ∧ impl_moved.l0 q (x : Int) (y : Int) l (n : Int) (i : Int) = some (z : Int) ∧ ∀ K, spec_l3Permute.l1 (K + d + 1) l A (x : Int) (y : Int) (i : Int) (n : Int) w = spec_l3Permute.l0 K l (bits .or .i64 A (shl .i64 (bits .and .i64 (shr .i64 w (x : Int)) 1) (z : Int))) ((x : Int) + 1) (n : Int) w := by
  intro d
  induction d with
  | zero =>
    intro i q y hi hy hq
    obtain ⟨q, rfl⟩ : ∃ z, q = z + 1 := ⟨q - 1, by omega⟩
    refine ⟨y, hy, ?_, ?_⟩
    · simp only [impl_moved.l0]
      rw [if_neg (by omega)]
    · intro K
      simp only [Nat.add_zero, spec_l3Permute.l1]
      rw [if_neg (by omega), if_pos (by omega), if_pos (by omega), w64 (by omega) (by omega)]
  | succ d ih =>
    intro i q y hi hy hq
    obtain ⟨q, rfl⟩ : ∃ z, q = z + 1 := ⟨q - 1, by omega⟩
    have hri := hr i (by omega)
    obtain ⟨p, hp⟩ := Int.eq_ofNat_of_zero_le hri.1
    have hb : (if x.testBit i then 2 ^ p else 0 : Nat) < 2 ^ 5 := by
      cases x.testBit i
      · show (0 : Nat) < 2 ^ 5; decide
      · exact Nat.pow_lt_pow_right (by decide) (by omega)
    have ho := or_bit y p (x.testBit i) (by omega) (by omega)
    have hlt := Nat.or_lt_two_pow hy hb
    obtain ⟨z, z1, z2, z3⟩ := ih (i + 1) q _ (by omega) hlt (by omega)
    refine ⟨z, z1, ?_, ?_⟩
    · simp only [impl_moved.l0]
      rw [if_pos (by omega), if_pos (by omega), if_pos (by omega), if_pos hri.1, shr_is (by omega), bit_is (by omega) (by omega) (by omega) (by omega), w64 (by omega) (by omega), hp]
      simp only [Int.toNat_natCast]
      rw [ho]
      exact z2
    · intro K
      rw [show K + (d + 1) + 1 = (K + d + 1) + 1 by omega]
      rw [spec_l3Permute.l1, if_pos (by omega), if_pos (by omega), if_pos (by omega), if_pos hri.1, shr_is (w := (x : Int)) (by omega), bit_is (w := (x : Int)) (by omega) (by omega) (by omega) (by omega), w64 (x := (i : Int) + 1) (by omega) (by omega), hp]
      simp only [Int.toNat_natCast]
      rw [ho]
      exact z3 K


theorem permute_word (l : List Int) (n : Nat) (w : Int) (hn : n ≤ 5) (hl : l.length = n) (w0 : 0 ≤ w) (w1 : w ≤ 4294967296) (hr : ∀ a : Nat, a < n → 0 ≤ rd l a ∧ rd l a ≤ 4) : ∀ (d x k q A : Nat), x + d = 2 ^ n → A < 2 ^ 32 → 8 * d + 10 ≤ k → d + 10 ≤ q →
    ∃ B : Nat, B < 2 ^ 32 ∧ spec_l3Permute.l0 k l (A : Int) (x : Int) (n : Int) w = some ((n : Int), (B : Int)) ∧ impl_Table_permute.l0 q l ((2 ^ n : Nat) : Int) (x : Int) (n : Int) w (n : Int) (A : Int) = some ((n : Int), (B : Int)) := by
  have h32 := pow_le_32 hn
  intro d
  induction d with
  | zero =>
    intro x k q A hx hA hk hq
    obtain ⟨k, rfl⟩ : ∃ z, k = z + 1 := ⟨k - 1, by omega⟩
    obtain ⟨q, rfl⟩ : ∃ z, q = z + 1 := ⟨q - 1, by omega⟩
    simp only [spec_l3Permute.l0, impl_Table_permute.l0]
    rw [if_pos (by omega), shl_two_nat hn, if_neg (by omega), if_neg (by omega)]
    exact ⟨A, hA, rfl, rfl⟩
  | succ d ih =>
    intro x k q A hx hA hk hq
    obtain ⟨K, rfl⟩ : ∃ z, k = (z + n + 1) + 1 := ⟨k - n - 2, by omega⟩
    obtain ⟨q, rfl⟩ : ∃ z, q = z + 1 := ⟨q - 1, by omega⟩
    obtain ⟨z, z1, z2, z3⟩ := moved_loop l n x A w hn hl (by omega) hr n 0 q 0 (by omega) (by decide) (by omega)
    have z2' : impl_moved.f q (x : Int) l = some (z : Int) := by
      unfold impl_moved.f
      rw [hl]
      exact z2
    have hlt : (x : Int) < ((2 ^ n : Nat) : Int) := by exact_mod_cast (show x < 2 ^ n by omega)
    have hb : (if w.toNat.testBit x then 2 ^ z else 0 : Nat) < 2 ^ 32 := by
      cases w.toNat.testBit x
      · show (0 : Nat) < 2 ^ 32; decide
      · exact Nat.pow_lt_pow_right (by decide) (by omega)
    have ho := or_bit A z (w.toNat.testBit x) (Nat.lt_trans hA (by decide)) (by omega)
    have hA2 := Nat.or_lt_two_pow hA hb
    rw [spec_l3Permute.l0, if_pos (by omega), shl_two_nat hn, if_pos hlt]
    have e3 := z3 K
    rw [show ((0 : Nat) : Int) = 0 from rfl] at e3
    rw [e3, impl_Table_permute.l0, if_pos hlt, at_is w0 (by omega) (by omega) (by omega), z2', shr_is (by omega), bit_is w0 (by omega) (by omega) (by omega), w64 (by omega) (by omega)]
    simp only [Option.bind_some, Int.toNat_natCast]
    rw [if_pos (by omega), ho]
    exact ih (x + 1) K q _ (by omega) hA2 (by omega) (by omega)


/-- The three steps, in whole numbers. -/
def permF (n v : Nat) (p : List Int) : Nat := ((impl_Table_permute.f 400 (n : Int) (v : Int) p).getD (0, 0)).2.toNat
def shF (n a x : Nat) : Nat := shW (a : Int) (x : Int) n
def ntF (n h : Nat) : Nat := 2 ^ 2 ^ n - 1 - h
def words (n v : Nat) : List Nat := imgs (permF n v) (shF n) (ntF n) (2 ^ n) (ext n n [])

theorem ext_rows : ∀ n : Nat, n ≤ 4 → (ext n n []).length ≤ 24 ∧ ∀ x ∈ ext n n [], x.length = n ∧ ∀ a, a < n → 0 ≤ rd x (a : Int) ∧ rd x (a : Int) ≤ 4 := by decide +kernel

theorem perm_both (n v : Nat) (hn : n ≤ 4) (hv : v ≤ 4294967296) (p : List Int) (hp : p ∈ ext n n []) (K : Nat) (hK : 400 ≤ K) :
    permF n v p < 2 ^ 32 ∧ spec_l3Permute.f K (n : Int) (v : Int) p = some ((n : Int), (permF n v p : Int)) ∧ impl_Table_permute.f 400 (n : Int) (v : Int) p = some ((n : Int), (permF n v p : Int)) := by
  obtain ⟨h1, h2⟩ := (ext_rows n hn).2 p hp
  have h32 := pow_le_32 (show n ≤ 5 by omega)
  obtain ⟨B, b0, b1, b2⟩ := permute_word p n (v : Int) (by omega) h1 (by omega) (by omega) h2 (2 ^ n) 0 K 400 0 (by omega) (by decide) (by omega) (by omega)
  have e : impl_Table_permute.f 400 (n : Int) (v : Int) p = some ((n : Int), (B : Int)) := by
    unfold impl_Table_permute.f
    rw [size_is (by omega) (by omega), two_nat (by omega)]
    exact b2
  have ep : permF n v p = B := by unfold permF; rw [e]; simp
  rw [ep]
  exact ⟨b0, b1, e⟩

theorem two_at_nat {n : Nat} (hn : n ≤ 4) : two (n : Int) = ((2 ^ n : Nat) : Int) := two_nat (by omega)
theorem lim_nat {n : Nat} (hn : n ≤ 4) : lim (n : Int) = ((2 ^ 2 ^ n : Nat) : Int) := by
  rw [lim_two (by omega) (by omega), two_at_nat hn, Int.toNat_natCast]
  push_cast
  rfl

theorem shift_fact (n a x : Nat) (hn : n ≤ 4) (ha : a < 2 ^ 32) (hx : x < 2 ^ n) : impl_Table_shift.f (n : Int) (a : Int) (x : Int) = some ((n : Int), (shF n a x : Int)) := by
  have := shift_impl (n := (n : Int)) (w := (a : Int)) (s := (x : Int)) (by omega) (by omega) (by omega) (by omega) (by omega) (by rw [two_at_nat hn]; omega)
  rw [this]
  rfl
theorem shF_lt (n a x : Nat) : shF n a x < 2 ^ 2 ^ n := by
  unfold shF shW
  exact wordOf_lt _ _
theorem ntF_lt (n h : Nat) : ntF n h < 2 ^ 2 ^ n := by
  have := Nat.two_pow_pos (2 ^ n)
  unfold ntF
  omega
theorem not_fact (n h : Nat) (hn : n ≤ 4) (hh : h < 2 ^ 2 ^ n) : impl_Table_not.f (n : Int) (h : Int) = some ((n : Int), (ntF n h : Int)) := by
  have hl := lim_nat hn
  rw [not_is (isT_of ⟨by omega, by omega, by omega, by rw [hl]; omega⟩), hl]
  unfold ntF
  congr 2
  omega
end Go.Proofs.Ytijpcemcijaeeaa.Tab
