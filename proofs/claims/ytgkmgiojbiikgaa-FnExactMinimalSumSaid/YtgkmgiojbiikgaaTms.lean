/- What the laws' own loops over rows of terms come to: equal rows, marks, and what is held. Conditions: the bounds that stand in each. -/
import Derived.Test.YtgkmgiojbiikgaaBits
import Derived.Test.YtgkmgiojbiikgaaPv3
import Derived.Test.YtgkmgiojbiikgaaPz4
namespace Go.Proofs.Ytgkmgiojbiikgaa.Tms
set_option linter.unusedVariables false
set_option linter.unusedSimpArgs false
open Go Go.RowKit Go.Proofs.Ytgkmgiojbiikgaa.P Go.Proofs.Ytgkmgiojbiikgaa.Bits Go.Proofs.YtgkmgiojbiikgaaW.PrintWords Go.Proofs.YtgkmgiojbiikgaaW.PrintLast Go.Proofs.YtgkmgiojbiikgaaW.PrintMore

theorem eq_loop (l : List S28) (hl : l.length < 2 ^ 60) : ∀ (d i k : Nat), i + d = l.length → d < k → laws_eqTermS.l0 k l l (i : Int) = some true := by
  intro d
  induction d with
  | zero =>
    intro i k hi hk
    obtain ⟨k, rfl⟩ : ∃ q, k = q + 1 := ⟨k - 1, by omega⟩
    simp only [laws_eqTermS.l0]
    rw [if_neg (by omega)]
  | succ d ih =>
    intro i k hi hk
    obtain ⟨k, rfl⟩ : ∃ q, k = q + 1 := ⟨k - 1, by omega⟩
    simp only [laws_eqTermS.l0, laws_eqTerm.f]
    rw [if_pos (by omega), if_pos (by omega), if_pos (by omega), w64 (by omega) (by omega)]
    simp only [if_true, Option.bind_some]
    exact ih (i + 1) k (by omega) (by omega)

theorem eq_self (l : List S28) (hl : l.length < 2 ^ 60) {k : Nat} (hk : l.length < k) : laws_eqTermS.f k l l = some true := by
  unfold laws_eqTermS.f
  rw [if_pos rfl]
  exact eq_loop l hl l.length 0 k (by omega) hk

theorem mark_loop (L : Nat) (hL : L < 2 ^ 60) : ∀ (d i k : Nat) (x : List S28), i + d = L → x.length = L → (∀ j, j < i → x[j]? = some ⟨2 * (j : Int) + 1, 2 * (j : Int) + 2⟩) → d < k →
    ∃ y, laws_markTermS.l0 k x (2 * (i : Int) + 1) (i : Int) = some (2 * (L : Int) + 1, y) ∧ y.length = L ∧ ∀ j, j < L → y[j]? = some ⟨2 * (j : Int) + 1, 2 * (j : Int) + 2⟩ := by
  intro d
  induction d with
  | zero =>
    intro i k x hi hx h hk
    obtain ⟨k, rfl⟩ : ∃ q, k = q + 1 := ⟨k - 1, by omega⟩
    simp only [laws_markTermS.l0]
    rw [if_neg (by omega)]
    obtain rfl : i = L := by omega
    exact ⟨x, rfl, hx, h⟩
  | succ d ih =>
    intro i k x hi hx h hk
    obtain ⟨k, rfl⟩ : ∃ q, k = q + 1 := ⟨k - 1, by omega⟩
    have e1 : wrap64 (2 * (i : Int) + 1 + 1) = 2 * (i : Int) + 2 := by rw [w64 (by omega) (by omega)]; omega
    have e2 : wrap64 (2 * (i : Int) + 2 + 1) = 2 * ((i + 1 : Nat) : Int) + 1 := by rw [w64 (by omega) (by omega)]; omega
    have e3 : wrap64 ((i : Int) + 1) = ((i + 1 : Nat) : Int) := by rw [w64 (by omega) (by omega)]; omega
    simp only [laws_markTermS.l0]
    rw [if_pos (by omega), if_pos (by omega)]
    simp only [Option.bind_some, Int.toNat_natCast]
    rw [e1, e2, e3]
    have er : ∀ z : S28, rd_T28 (x.set i z) (i : Int) = z := by
      intro z
      unfold rd_T28
      rw [Int.toNat_natCast, List.getD_eq_getElem?_getD, List.getElem?_set, if_pos rfl, if_pos (by omega)]
      rfl
    rw [er]
    refine ih (i + 1) k _ (by omega) (by rw [List.length_set, List.length_set, hx]) ?_ (by omega)
    intro j hj
    rw [List.getElem?_set]
    by_cases e : i = j
    · subst e
      rw [if_pos rfl, if_pos (by rw [List.length_set]; omega)]
    · rw [if_neg e, List.getElem?_set, if_neg e]
      exact h j (by omega)

theorem held_loop (L : Nat) (hL : L < 2 ^ 60) (y : List S28) (hy : y.length = L) (h : ∀ j, j < L → y[j]? = some ⟨2 * (j : Int) + 1, 2 * (j : Int) + 2⟩) : ∀ (d i k : Nat), i + d = L → d < k →
    laws_heldTermS.l0 k y (2 * (i : Int) + 1) (i : Int) = some (2 * (L : Int) + 1) := by
  intro d
  induction d with
  | zero =>
    intro i k hi hk
    obtain ⟨k, rfl⟩ : ∃ q, k = q + 1 := ⟨k - 1, by omega⟩
    simp only [laws_heldTermS.l0]
    rw [if_neg (by omega)]
    obtain rfl : i = L := by omega
    rfl
  | succ d ih =>
    intro i k hi hk
    obtain ⟨k, rfl⟩ : ∃ q, k = q + 1 := ⟨k - 1, by omega⟩
    have e1 : wrap64 (2 * (i : Int) + 1 + 1) = 2 * (i : Int) + 2 := by rw [w64 (by omega) (by omega)]; omega
    have e2 : wrap64 (2 * (i : Int) + 2 + 1) = 2 * ((i + 1 : Nat) : Int) + 1 := by rw [w64 (by omega) (by omega)]; omega
    have e3 : wrap64 ((i : Int) + 1) = ((i + 1 : Nat) : Int) := by rw [w64 (by omega) (by omega)]; omega
    have hr : rd_T28 y (i : Int) = ⟨2 * (i : Int) + 1, 2 * (i : Int) + 2⟩ := by
      unfold rd_T28
      rw [Int.toNat_natCast, List.getD_eq_getElem?_getD, h i (by omega)]
      rfl
    simp only [laws_heldTermS.l0]
    rw [if_pos (by omega), if_pos (by omega), hr, if_pos rfl, e1, if_pos rfl, e2, e3]
    exact ih (i + 1) k (by omega) (by omega)

theorem mark_held (l : List S28) (hl : l.length < 2 ^ 60) {k : Nat} (hk : l.length < k) : ∃ y, laws_markTermS.f k l 1 = some (2 * (l.length : Int) + 1, y) ∧ ∀ q, l.length < q → laws_heldTermS.f q y 1 = some (2 * (l.length : Int) + 1) := by
  obtain ⟨y, h1, h2, h3⟩ := mark_loop l.length hl l.length 0 k l (by omega) rfl (fun j hj => absurd hj (by omega)) hk
  exact ⟨y, h1, fun q hq => held_loop l.length hl y h2 h3 l.length 0 q (by omega) hq⟩
end Go.Proofs.Ytgkmgiojbiikgaa.Tms
