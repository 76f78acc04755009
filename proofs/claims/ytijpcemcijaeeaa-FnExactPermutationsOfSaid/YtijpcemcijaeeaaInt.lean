/- What the laws' own loops over rows of whole numbers come to: equal rows, marks, and what is held. Conditions: the bounds that stand in each. -/
import Derived.Test.YtijpcemcijaeeaaBits
import Derived.Test.YtijpcemcijaeeaaPa3
namespace Go.Proofs.Ytijpcemcijaeeaa.Tab
set_option linter.unusedVariables false
set_option linter.unusedSimpArgs false
open Go Go.RowKit Go.Proofs.Ytijpcemcijaeeaa.P Go.Proofs.Ytijpcemcijaeeaa.Bits Go.Proofs.YtijpcemcijaeeaaW.PrintWords Go.Proofs.YtijpcemcijaeeaaW.PrintLast Go.Proofs.YtijpcemcijaeeaaW.PrintMore

theorem eqInt_loop (l : List Int) (hl : l.length < 2 ^ 60) : ∀ (d i k : Nat), i + d = l.length → d < k → laws_eqIntS.l0 k l l (i : Int) = some true := by
  intro d
  induction d with
  | zero =>
    intro i k hi hk
    obtain ⟨k, rfl⟩ : ∃ q, k = q + 1 := ⟨k - 1, by omega⟩
    simp only [laws_eqIntS.l0]
    rw [if_neg (by omega)]
  | succ d ih =>
    intro i k hi hk
    obtain ⟨k, rfl⟩ : ∃ q, k = q + 1 := ⟨k - 1, by omega⟩
    simp only [laws_eqIntS.l0]
    rw [if_pos (by omega), if_pos (by omega), if_pos (by omega), if_pos trivial, w64 (by omega) (by omega)]
    exact ih (i + 1) k (by omega) (by omega)

theorem eqInt_self (l : List Int) (hl : l.length < 2 ^ 60) {k : Nat} (hk : l.length < k) : laws_eqIntS.f k l l = some true := by
  unfold laws_eqIntS.f
  rw [if_pos rfl]
  exact eqInt_loop l hl l.length 0 k (by omega) hk

theorem mark_loop (L : Nat) (hL : L < 2 ^ 60) : ∀ (d i k : Nat) (x : List Int), i + d = L → x.length = L → (∀ j, j < i → x[j]? = some ((j : Int) + 1)) → d < k →
    ∃ y, laws_markIntS.l0 k x ((i : Int) + 1) (i : Int) = some ((L : Int) + 1, y) ∧ y.length = L ∧ ∀ j, j < L → y[j]? = some ((j : Int) + 1) := by
  intro d
  induction d with
  | zero =>
    intro i k x hi hx h hk
    obtain ⟨k, rfl⟩ : ∃ q, k = q + 1 := ⟨k - 1, by omega⟩
    simp only [laws_markIntS.l0]
    rw [if_neg (by omega)]
    obtain rfl : i = L := by omega
    exact ⟨x, rfl, hx, h⟩
  | succ d ih =>
    intro i k x hi hx h hk
    obtain ⟨k, rfl⟩ : ∃ q, k = q + 1 := ⟨k - 1, by omega⟩
    simp only [laws_markIntS.l0]
    rw [if_pos (by omega), if_pos (by omega), w64 (by omega) (by omega), w64 (by omega) (by omega), Int.toNat_natCast]
    refine ih (i + 1) k (x.set i ((i : Int) + 1)) (by omega) (by rw [List.length_set, hx]) ?_ (by omega)
    intro j hj
    rw [List.getElem?_set]
    by_cases e : i = j
    · subst e
      rw [if_pos rfl, if_pos (by omega)]
    · rw [if_neg e]
      exact h j (by omega)

theorem held_loop (L : Nat) (hL : L < 2 ^ 60) (y : List Int) (hy : y.length = L) (h : ∀ j, j < L → y[j]? = some ((j : Int) + 1)) : ∀ (d i k : Nat), i + d = L → d < k →
    laws_heldIntS.l0 k y ((i : Int) + 1) (i : Int) = some ((L : Int) + 1) := by
  intro d
  induction d with
  | zero =>
    intro i k hi hk
    obtain ⟨k, rfl⟩ : ∃ q, k = q + 1 := ⟨k - 1, by omega⟩
    simp only [laws_heldIntS.l0]
    rw [if_neg (by omega)]
    obtain rfl : i = L := by omega
    rfl
  | succ d ih =>
    intro i k hi hk
    obtain ⟨k, rfl⟩ : ∃ q, k = q + 1 := ⟨k - 1, by omega⟩
    simp only [laws_heldIntS.l0]
    have hr : rd y (i : Int) = (i : Int) + 1 := by
      unfold rd
      rw [Int.toNat_natCast, List.getD_eq_getElem?_getD, h i (by omega)]
      rfl
    rw [if_pos (by omega), if_pos (by omega), if_pos hr, w64 (by omega) (by omega), w64 (by omega) (by omega)]
    exact ih (i + 1) k (by omega) (by omega)

theorem mark_held (l : List Int) (hl : l.length < 2 ^ 60) {k : Nat} (hk : l.length < k) : ∃ y, laws_markIntS.f k l 1 = some ((l.length : Int) + 1, y) ∧ laws_heldIntS.f k y 1 = some ((l.length : Int) + 1) := by
  obtain ⟨y, h1, h2, h3⟩ := mark_loop l.length hl l.length 0 k l (by omega) rfl (fun j hj => absurd hj (by omega)) hk
  exact ⟨y, h1, held_loop l.length hl y h2 h3 l.length 0 k (by omega) hk⟩
end Go.Proofs.Ytijpcemcijaeeaa.Tab
