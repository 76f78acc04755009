/- Orders: what the reference's and the program's tests of an order come to. Conditions: the bounds that stand in each. -/
import Derived.Test.YtijpcemcijaeeaaTab
import Derived.Test.YtijpcemcijaeeaaG1t
import Derived.Test.YtijpcemcijaeeaaPa3
namespace Go.Proofs.Ytijpcemcijaeeaa.Per
set_option linter.unusedVariables false
set_option linter.unusedSimpArgs false
open Go Go.RowKit Go.Proofs.Ytijpcemcijaeeaa.P Go.Proofs.Ytijpcemcijaeeaa.Bits Go.Proofs.Ytijpcemcijaeeaa.Tab Go.Proofs.YtijpcemcijaeeaaW.PrintWords Go.Proofs.YtijpcemcijaeeaaW.PrintLast Go.Proofs.YtijpcemcijaeeaaW.PrintMore

theorem toInt_loop (l : List Int) (hl : l.length < 2 ^ 60) : ∀ (d i k : Nat) (x : List Int), i + d = l.length → x.length = l.length → (∀ j, j < i → x[j]? = l[j]?) → d < k → laws_toIntS.l0 k l x (i : Int) = some l := by
  intro d
  induction d with
  | zero =>
    intro i k x hi hx h hk
    obtain ⟨k, rfl⟩ : ∃ q, k = q + 1 := ⟨k - 1, by omega⟩
    simp only [laws_toIntS.l0]
    rw [if_neg (by omega)]
    congr 1
    apply List.ext_getElem?
    intro j
    by_cases hj : j < i
    · exact h j hj
    · rw [List.getElem?_eq_none (by omega), List.getElem?_eq_none (by omega)]
  | succ d ih =>
    intro i k x hi hx h hk
    obtain ⟨k, rfl⟩ : ∃ q, k = q + 1 := ⟨k - 1, by omega⟩
    simp only [laws_toIntS.l0]
    rw [if_pos (by omega), if_pos (by omega), if_pos (by omega), w64 (by omega) (by omega), Int.toNat_natCast]
    refine ih (i + 1) k _ (by omega) (by rw [List.length_set, hx]) ?_ (by omega)
    intro j hj
    rw [List.getElem?_set]
    by_cases e : i = j
    · subst e
      rw [if_pos rfl, if_pos (by omega)]
      unfold rd
      rw [Int.toNat_natCast, List.getD_eq_getElem?_getD, List.getElem?_eq_getElem (by omega)]
      rfl
    · rw [if_neg e]
      exact h j (by omega)

theorem toInt_is (l : List Int) (hl : l.length ≤ 35184372088832) {k : Nat} (hk : l.length < k) : laws_toIntS.f k l = some l := by
  unfold laws_toIntS.f
  rw [if_pos (by omega), if_pos (by omega)]
  exact toInt_loop l (by omega) l.length 0 k _ (by omega) (by simp) (fun j hj => absurd hj (by omega)) hk

/-- from place i on: in range, and unlike all before; and as many as there are variables -/
def T (l : List Int) (n : Int) (i : Nat) : Prop := (∀ a : Nat, i ≤ a → a < l.length → (0 ≤ rd l a ∧ rd l a ≤ n - 1) ∧ ∀ b : Nat, b < a → rd l b ≠ rd l a) ∧ (l.length : Int) = n

theorem perm_inner (l : List Int) (n : Int) (hl : l.length ≤ 1048576) (i : Nat) (hi : i < l.length) (hr : 0 ≤ rd l i ∧ rd l i ≤ n - 1) (K : Nat)
    (H : ∀ k, K ≤ k → ∃ r, spec_l3Perm.l0 k l n ((i : Int) + 1) = some r ∧ (r = true ↔ T l n (i + 1))) :
    ∀ (e b k : Nat), b + e = i → K + e + 1 ≤ k → (∀ c : Nat, c < b → rd l c ≠ rd l i) → ∃ r, spec_l3Perm.l1 k l n (i : Int) (b : Int) = some r ∧ (r = true ↔ T l n i) := by
  intro e
  induction e with
  | zero =>
    intro b k hb hk h
    obtain ⟨k, rfl⟩ : ∃ q, k = q + 1 := ⟨k - 1, by omega⟩
    obtain ⟨r, r1, r2⟩ := H k (by omega)
    simp only [spec_l3Perm.l1]
    rw [if_neg (by omega), w64 (by omega) (by omega)]
    refine ⟨r, r1, r2.trans ?_⟩
    constructor
    · rintro ⟨q1, q2⟩
      refine ⟨?_, q2⟩
      intro a h1 h2
      by_cases ea : a = i
      · subst ea
        exact ⟨hr, fun c hc => h c (by omega)⟩
      · exact q1 a (by omega) h2
    · rintro ⟨q1, q2⟩
      exact ⟨fun a h1 h2 => q1 a (by omega) h2, q2⟩
  | succ e ih =>
    intro b k hb hk h
    obtain ⟨k, rfl⟩ : ∃ q, k = q + 1 := ⟨k - 1, by omega⟩
    simp only [spec_l3Perm.l1]
    rw [if_pos (by omega), if_pos (by omega), if_pos (by omega), if_pos (by omega), if_pos (by omega)]
    by_cases he : rd l (b : Int) = rd l (i : Int)
    · rw [if_pos he]
      refine ⟨false, rfl, ?_⟩
      constructor
      · intro q; exact absurd q (by decide)
      · rintro ⟨q1, -⟩
        exact absurd he ((q1 i (by omega) hi).2 b (by omega))
    · rw [if_neg he, w64 (by omega) (by omega)]
      refine ih (b + 1) k (by omega) (by omega) ?_
      intro c hc
      by_cases ec : c = b
      · subst ec; exact he
      · exact h c (by omega)

theorem perm_outer (l : List Int) (n : Int) (hl : l.length ≤ 1048576) (hn : 0 ≤ n) (hn5 : n ≤ 5) : ∀ (d i k : Nat), i + d = l.length → d * (l.length + 3) + 1 ≤ k → ∃ r, spec_l3Perm.l0 k l n (i : Int) = some r ∧ (r = true ↔ T l n i) := by
  intro d
  induction d with
  | zero =>
    intro i k hi hk
    obtain ⟨k, rfl⟩ : ∃ q, k = q + 1 := ⟨k - 1, by omega⟩
    simp only [spec_l3Perm.l0]
    rw [if_neg (by omega)]
    refine ⟨_, rfl, ?_⟩
    rw [beq_iff_eq]
    constructor
    · intro q
      exact ⟨fun a h1 h2 => absurd h2 (by omega), q⟩
    · exact fun q => q.2
  | succ d ih =>
    intro i k hi hk
    obtain ⟨k, rfl⟩ : ∃ q, k = q + 1 := ⟨k - 1, by omega⟩
    rw [Nat.succ_mul] at hk
    simp only [spec_l3Perm.l0]
    rw [if_pos (by omega), if_pos (by omega), w64 (by omega) (by omega), l1In_is]
    simp only [Option.bind_some]
    by_cases hr : 0 ≤ rd l (i : Int) ∧ rd l (i : Int) ≤ n - 1
    · rw [decide_eq_true hr]
      simp only [if_true]
      exact perm_inner l n hl i (by omega) hr (d * (l.length + 3) + 1) (fun k hk => ih (i + 1) k (by omega) hk) i 0 k (by omega) (by omega) (fun c hc => absurd hc (by omega))
    · rw [decide_eq_false hr]
      simp only [Bool.false_eq_true, if_false]
      refine ⟨false, rfl, ?_⟩
      constructor
      · intro q; exact absurd q (by decide)
      · rintro ⟨q1, -⟩
        exact absurd (q1 i (by omega) (by omega)).1 hr

theorem index_loop (l : List Int) (v : Int) (hl : l.length ≤ 1048576) : ∀ (d i k : Nat), i + d = l.length → d < k → ∃ r, slices_Index_int_int.l0 k l v (l.length : Int) (i : Int) = some r ∧ (r ≥ 0 ↔ ∃ a : Nat, i ≤ a ∧ a < l.length ∧ rd l a = v) := by
  intro d
  induction d with
  | zero =>
    intro i k hi hk
    obtain ⟨k, rfl⟩ : ∃ q, k = q + 1 := ⟨k - 1, by omega⟩
    simp only [slices_Index_int_int.l0]
    rw [if_neg (by omega)]
    refine ⟨-1, rfl, ?_⟩
    constructor
    · intro q; omega
    · rintro ⟨a, h1, h2, -⟩; omega
  | succ d ih =>
    intro i k hi hk
    obtain ⟨k, rfl⟩ : ∃ q, k = q + 1 := ⟨k - 1, by omega⟩
    simp only [slices_Index_int_int.l0]
    rw [if_pos (by omega), if_pos (by omega), if_pos (by omega), w64 (by omega) (by omega)]
    by_cases he : v = rd l (i : Int)
    · rw [if_pos he]
      refine ⟨_, rfl, ?_⟩
      constructor
      · intro _; exact ⟨i, by omega, by omega, he.symm⟩
      · intro _; omega
    · rw [if_neg he]
      obtain ⟨r, r1, r2⟩ := ih (i + 1) k (by omega) (by omega)
      refine ⟨r, r1, r2.trans ?_⟩
      constructor
      · rintro ⟨a, h1, h2, h3⟩; exact ⟨a, by omega, h2, h3⟩
      · rintro ⟨a, h1, h2, h3⟩
        by_cases ea : a = i
        · subst ea; exact absurd h3.symm he
        · exact ⟨a, by omega, h2, h3⟩

theorem order_loop (l : List Int) (n : Nat) (hl : l.length ≤ 1048576) (hn : n ≤ 5) : ∀ (d i k : Nat), i + d = n → l.length + d + 2 ≤ k → ∃ r, impl_isOrder.l0 k l (n : Int) (i : Int) = some r ∧ (r = true ↔ ∀ v : Nat, i ≤ v → v < n → ∃ a : Nat, a < l.length ∧ rd l a = (v : Int)) := by
  intro d
  induction d with
  | zero =>
    intro i k hi hk
    obtain ⟨k, rfl⟩ : ∃ q, k = q + 1 := ⟨k - 1, by omega⟩
    simp only [impl_isOrder.l0]
    rw [if_neg (by omega)]
    refine ⟨true, rfl, ?_⟩
    constructor
    · intro _ v h1 h2; omega
    · intro _; rfl
  | succ d ih =>
    intro i k hi hk
    obtain ⟨k, rfl⟩ : ∃ q, k = q + 1 := ⟨k - 1, by omega⟩
    obtain ⟨r, r1, r2⟩ := index_loop l (i : Int) hl l.length 0 k (by omega) (by omega)
    have r1' : slices_Index_int_int.f k l (i : Int) = some r := r1
    simp only [impl_isOrder.l0, slices_Contains_int_int.f]
    rw [if_pos (by omega), r1', w64 (by omega) (by omega)]
    simp only [Option.bind_some]
    by_cases hr : r ≥ 0
    · rw [decide_eq_true hr]
      simp only [if_true]
      obtain ⟨s, s1, s2⟩ := ih (i + 1) k (by omega) (by omega)
      refine ⟨s, s1, s2.trans ?_⟩
      constructor
      · intro q v h1 h2
        by_cases ev : v = i
        · subst ev
          obtain ⟨a, -, h3, h4⟩ := r2.mp hr
          exact ⟨a, h3, h4⟩
        · exact q v (by omega) h2
      · intro q v h1 h2; exact q v (by omega) h2
    · rw [decide_eq_false hr]
      simp only [Bool.false_eq_true, if_false]
      refine ⟨false, rfl, ?_⟩
      constructor
      · intro q; exact absurd q (by decide)
      · intro q
        obtain ⟨a, h1, h2⟩ := q i (by omega) (by omega)
        exact absurd (r2.mpr ⟨a, by omega, h1, h2⟩) hr
end Go.Proofs.Ytijpcemcijaeeaa.Per
