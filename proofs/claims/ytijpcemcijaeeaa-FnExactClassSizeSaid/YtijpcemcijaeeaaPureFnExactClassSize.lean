/- The plain law of ClassSize. No conditions. -/
import Derived.Test.YtijpcemcijaeeaaPLFnExactClassSize
import Derived.Test.YtijpcemcijaeeaaLea
import Derived.Test.YtijpcemcijaeeaaOrb
import Derived.Test.YtijpcemcijaeeaaGcs
import Derived.Test.YtijpcemcijaeeaaGcs
import Derived.Test.YtijpcemcijaeeaaPLFnExactClassSize
import Derived.Test.YtijpcemcijaeeaaPy0
import Derived.Test.YtijpcemcijaeeaaPz1
namespace Go.Proofs.Ytijpcemcijaeeaa.Pure
set_option linter.unusedVariables false
set_option linter.unusedSimpArgs false
open Go.RowKit Go.Proofs.Ytijpcemcijaeeaa.P Go.Proofs.Ytijpcemcijaeeaa.Bits Go.Proofs.Ytijpcemcijaeeaa.Tab Go.Proofs.YtijpcemcijaeeaaW.PrintWords Go.Proofs.YtijpcemcijaeeaaW.PrintLast

/-- All ways: twice, and for each variable twice its number. -/
def waysTo (m : Nat) : Nat := (List.range m).foldl (fun (a i : Nat) => a * 2 * (i + 1)) 2
theorem ways_succ (m : Nat) : waysTo (m + 1) = waysTo m * 2 * (m + 1) := by
  unfold waysTo
  rw [List.range_succ, List.foldl_append]
  rfl
theorem ways_le : ∀ m : Nat, m ≤ 4 → waysTo m ≤ 768 := by decide

theorem ways_loop (n c : Nat) (w : Int) (hn : n ≤ 4) (hc : 0 < c) : ∀ (d i K : Nat), i + d = n → d + 2 ≤ K →
    spec_ClassSize.l0 K (c : Int) (waysTo i : Int) ((i + 1 : Nat) : Int) (n : Int) w = some ((waysTo n / c : Nat) : Int) := by
  intro d
  induction d with
  | zero =>
    intro i K hi hK
    obtain ⟨K, rfl⟩ : ∃ q, K = q + 1 := ⟨K - 1, by omega⟩
    obtain rfl : i = n := by omega
    have hl := ways_le i hn
    have hd := Nat.div_le_self (waysTo i) c
    simp only [spec_ClassSize.l0]
    rw [if_neg (by omega), if_neg (by omega), Int.tdiv_eq_ediv_of_nonneg (by omega), show ((waysTo i : Int) / (c : Int)) = ((waysTo i / c : Nat) : Int) from rfl]
    generalize waysTo i / c = q at hd
    rw [w64 (by omega) (by omega)]
  | succ d ih =>
    intro i K hi hK
    obtain ⟨K, rfl⟩ : ∃ q, K = q + 1 := ⟨K - 1, by omega⟩
    have hl := ways_le i (by omega)
    have hl2 := ways_le (i + 1) (by omega)
    have e := ih (i + 1) K (by omega) (by omega)
    simp only [spec_ClassSize.l0]
    rw [if_pos (by omega), w64 (x := (waysTo i : Int) * 2) (by omega) (by omega)]
    have e2 : (waysTo i : Int) * 2 * ((i + 1 : Nat) : Int) = (waysTo (i + 1) : Int) := by
      rw [ways_succ]
      push_cast
      rfl
    rw [e2, w64 (by omega) (by omega), w64 (by omega) (by omega)]
    rw [show ((i + 1 : Nat) : Int) + 1 = ((i + 1 + 1 : Nat) : Int) by omega]
    exact e

theorem class_spec (n w : Int) : spec_ClassSize.f 1000 n w = impl_ClassSize.f n w := by
  unfold spec_ClassSize.f impl_ClassSize.f spec_SymmetriesOf.f
  rw [spec_IsTable_is]
  simp only [Option.bind_some]
  cases h : isT n w
  · rw [if_neg (by decide), if_neg (by simp)]
    rfl
  · rw [if_pos rfl]
    obtain ⟨h0, h5, hw, hl⟩ := isT_yes h
    by_cases h4 : n > 4
    · rw [if_pos h4, if_neg (by omega)]
      rfl
    · rw [if_neg h4, if_pos ⟨rfl, by omega⟩]
      obtain ⟨n, rfl⟩ := Int.eq_ofNat_of_zero_le h0
      obtain ⟨w, rfl⟩ := Int.eq_ofNat_of_zero_le hw
      rw [lim_nat (by omega)] at hl
      rw [least_is n w (by omega) (by omega) 1000 (by omega)]
      simp only [Option.bind_some, Int.toNat_natCast]
      obtain ⟨d, d1, d2, d3⟩ := size_seen (words n w)
      obtain ⟨e1, e2⟩ := words_ways n w (by omega) (by omega) d d2 d3
      have e1' : waysTo n = d.length * (words n w).count w := e1
      rw [if_neg (by omega), d1]
      have e3 := ways_loop n ((words n w).count w) (w : Int) (by omega) e2 n 0 1000 (by omega) (by omega)
      rw [e1', Nat.mul_div_cancel _ e2] at e3
      exact e3

theorem FnExactClassSize : laws_FnExactClassSize.Pure := by
  intro n w _ _
  refine ⟨1000, ?_⟩
  unfold laws_FnExactClassSize.f laws_toTable.f
  simp only [Option.bind_some, class_spec n w]
  have : ∃ r, impl_ClassSize.f n w = some r := by
    unfold impl_ClassSize.f
    split <;> exact ⟨_, rfl⟩
  obtain ⟨r, hr⟩ := this
  rw [hr]
  simp
end Go.Proofs.Ytijpcemcijaeeaa.Pure
