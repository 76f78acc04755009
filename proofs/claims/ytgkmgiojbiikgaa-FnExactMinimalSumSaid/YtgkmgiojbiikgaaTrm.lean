/- Terms: what the reference's and the program's IsTerm come to, for all whole numbers of 64 bits. Conditions: the bounds that stand in each. -/
import Derived.Test.YtgkmgiojbiikgaaTab
import Derived.Test.YtgkmgiojbiikgaaG1m
import Derived.Test.YtgkmgiojbiikgaaG1t
import Derived.Test.YtgkmgiojbiikgaaPm1
namespace Go.Proofs.Ytgkmgiojbiikgaa.Tab
set_option linter.unusedVariables false
set_option linter.unusedSimpArgs false
open Go Go.RowKit Go.Proofs.Ytgkmgiojbiikgaa.P Go.Proofs.Ytgkmgiojbiikgaa.Bits Go.Proofs.YtgkmgiojbiikgaaW.PrintWords Go.Proofs.YtgkmgiojbiikgaaW.PrintLast Go.Proofs.YtgkmgiojbiikgaaW.PrintMore

def isM (n m v : Int) : Bool := decide (0 ≤ n ∧ n ≤ 5 ∧ 0 ≤ m ∧ m < two n ∧ 0 ≤ v ∧ v ≤ m ∧ v.toNat &&& m.toNat = v.toNat)

theorem spec_IsTerm_is (n m v : Int) : spec_IsTerm.f n m v = some (isM n m v) := by
  by_cases h : 0 ≤ n ∧ n ≤ 5
  · rw [isTerm_at n (two n - 1) m v h.1 h.2 (two_at h.1 h.2)]
    congr 1
    have h2 := two_le n
    by_cases hm : 0 ≤ m ∧ m ≤ two n - 1
    · rw [if_pos hm]
      by_cases hv : 0 ≤ v ∧ v ≤ m
      · rw [if_pos hv, and_int hv.1 (by omega) hm.1 (by omega)]
        unfold isM
        rw [Bool.eq_iff_iff]
        simp only [beq_iff_eq, decide_eq_true_eq]
        constructor
        · intro q; exact ⟨h.1, h.2, hm.1, by omega, hv.1, hv.2, by omega⟩
        · intro q; have := q.2.2.2.2.2.2; omega
      · rw [if_neg hv]
        exact (decide_eq_false (fun q => hv ⟨q.2.2.2.2.1, q.2.2.2.2.2.1⟩)).symm
    · rw [if_neg hm]
      exact (decide_eq_false (fun q => hm ⟨q.2.2.1, by have := q.2.2.2.1; omega⟩)).symm
  · unfold spec_IsTerm.f
    rw [l1In_is]
    have e : decide (0 ≤ n ∧ n ≤ 5) = false := decide_eq_false h
    rw [e]
    simp only [Option.bind_some, Bool.false_eq_true, if_false]
    congr 1
    exact (decide_eq_false (fun q => h ⟨q.1, q.2.1⟩)).symm

theorem nat_sub_of_andNot {v m : Nat} : v ^^^ (v &&& m) = 0 ↔ v &&& m = v := by
  constructor
  · intro h
    apply Nat.eq_of_testBit_eq
    intro i
    have q : (v ^^^ (v &&& m)).testBit i = false := by rw [h]; simp
    rw [Nat.testBit_xor] at q
    revert q
    cases v.testBit i <;> cases (v &&& m).testBit i <;> simp
  · intro h
    rw [h, Nat.xor_self]

theorem impl_IsTerm_is (n m v : Int) (hv1 : v ≤ 9223372036854775807) : impl_IsTerm.f n m v = some (isM n m v) := by
  unfold impl_IsTerm.f
  rw [impl_isBits_is]
  by_cases h : 0 ≤ n ∧ n ≤ 5
  · have e : decide (0 ≤ n ∧ n ≤ 5) = true := decide_eq_true h
    have h2 := two_le n
    rw [e]
    simp only [Option.bind_some, if_true]
    rw [impl_isInput_is h.1 h.2]
    simp only [Option.bind_some, decide_eq_true_eq]
    by_cases hm : 0 ≤ m ∧ m < two n
    · rw [if_pos hm]
      by_cases hv : v ≥ 0
      · rw [if_pos hv, andNot_int hv hv1 hm.1 (by omega)]
        congr 1
        unfold isM
        rw [Bool.eq_iff_iff]
        simp only [beq_iff_eq, decide_eq_true_eq]
        have k := @nat_sub_of_andNot v.toNat m.toNat
        constructor
        · intro q
          have q2 := k.mp (by omega)
          have : v.toNat &&& m.toNat ≤ m.toNat := Nat.and_le_right
          exact ⟨h.1, h.2, hm.1, hm.2, hv, by omega, q2⟩
        · intro q
          have := k.mpr q.2.2.2.2.2.2
          omega
      · rw [if_neg hv]
        congr 1
        exact (decide_eq_false (fun q => hv q.2.2.2.2.1)).symm
    · rw [if_neg hm]
      congr 1
      exact (decide_eq_false (fun q => hm ⟨q.2.2.1, q.2.2.2.1⟩)).symm
  · have e : decide (0 ≤ n ∧ n ≤ 5) = false := decide_eq_false h
    rw [e]
    simp only [Option.bind_some, Bool.false_eq_true, if_false]
    congr 1
    exact (decide_eq_false (fun q => h ⟨q.1, q.2.1⟩)).symm

end Go.Proofs.Ytgkmgiojbiikgaa.Tab
