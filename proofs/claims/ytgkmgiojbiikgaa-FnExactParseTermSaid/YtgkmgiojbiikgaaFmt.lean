/- What the reference's and the program's FormatTerm come to: one and the same text. Conditions: the bounds that stand in each. -/
import Derived.Test.YtgkmgiojbiikgaaTrm
import Derived.Test.YtgkmgiojbiikgaaShl
import Derived.Laws.Strings
import Derived.Laws.BytesArg
import Derived.Test.YtgkmgiojbiikgaaPb0
import Derived.Test.YtgkmgiojbiikgaaPz2
namespace Go.Proofs.Ytgkmgiojbiikgaa.Fmt
set_option linter.unusedVariables false
set_option linter.unusedSimpArgs false
open Go Go.RowKit Go.Proofs.Ytgkmgiojbiikgaa.P Go.Proofs.Ytgkmgiojbiikgaa.Bits Go.Proofs.Ytgkmgiojbiikgaa.Tab Go.Proofs.Ytgkmgiojbiikgaa.Shl Go.Proofs.YtgkmgiojbiikgaaW.PrintWords Go.Proofs.YtgkmgiojbiikgaaW.PrintLast Go.Proofs.YtgkmgiojbiikgaaW.PrintMore

theorem letter_is (i : Nat) (hi : i < 5) : (⟨#[97, 98, 99, 100, 101]⟩ : ByteArray).extract i (i + 1) = strOfNums [(97 + (i : Int)) % 256] := by
  match i, hi with
  | 0, _ => rfl
  | 1, _ => rfl
  | 2, _ => rfl
  | 3, _ => rfl
  | 4, _ => rfl

theorem bang_is : (⟨#[33]⟩ : ByteArray) = strOfNums [33] := rfl

theorem nil_is (xs : List Int) : (strOfNums xs).toList = ([] : List UInt8) ↔ xs = [] := by
  rw [ByteArray.toList_eq]
  cases xs <;> simp [strOfNums]

theorem fmt_loop (n : Nat) (m v : Int) (h : isM n m v = true) : ∀ (d i k : Nat) (xs : List Int), i + d = n → xs.length ≤ 2 * i → 2 * d + 2 ≤ k →
    ∃ r, spec_FormatTerm.l0 k (n : Int) (strOfNums xs) (i : Int) m v = some r ∧ impl_FormatTerm.l0 k xs (n : Int) (i : Int) m v = some r := by
  obtain ⟨n0, n5, g0, g1, g2, g3, g4⟩ := of_decide_eq_true h
  have ht2 := two_le n
  intro d
  induction d with
  | zero =>
    intro i k xs hi hlen hk
    obtain ⟨k, rfl⟩ : ∃ q, k = q + 1 + 1 := ⟨k - 2, by omega⟩
    obtain rfl : i = n := by omega
    simp only [spec_FormatTerm.l0, spec_FormatTerm.j1, impl_FormatTerm.l0, spec_IsTerm_is, h, Option.bind_some, if_true]
    rw [if_neg (show ¬ (decide ((i : Int) < (i : Int)) = true) by simp), if_neg (show ¬ ((i : Int) < (i : Int)) by omega)]
    by_cases hx : xs = []
    · subst hx
      rw [if_pos ((nil_is []).mpr rfl), if_pos (by simp)]
      exact ⟨_, rfl, rfl⟩
    · rw [if_neg (fun q => hx ((nil_is xs).mp q)), if_neg (by
        have : xs.length ≠ 0 := fun q => hx (List.length_eq_zero_iff.mp q)
        omega)]
      exact ⟨_, rfl, rfl⟩
  | succ d ih =>
    intro i k xs hi hlen hk
    obtain ⟨k, rfl⟩ : ∃ q, k = q + 1 + 1 := ⟨k - 2, by omega⟩
    simp only [spec_FormatTerm.l0, spec_FormatTerm.j1, spec_IsTerm_is, h, Option.bind_some, if_true]
    rw [impl_FormatTerm.l0, if_pos (show decide ((i : Int) < (n : Int)) = true from decide_eq_true (by omega)), if_pos (show (i : Int) < (n : Int) by omega), if_pos (show 0 ≤ (i : Int) by omega), if_pos (show 0 ≤ (i : Int) by omega), shr_is (by omega), shr_is (by omega), bit_is g0 (by omega) (by omega) (by omega), bit_is g2 (by omega) (by omega) (by omega), w64 (by omega) (by omega)]
    have el : (⟨#[97, 98, 99, 100, 101]⟩ : ByteArray).extract (i : Int).toNat ((i : Int) + 1).toNat = strOfNums [(97 + (i : Int)) % 256] := letter_is i (by omega)
    rw [el, bang_is, ← strOfNums_append, ← strOfNums_append, ← strOfNums_append]
    simp only [strOfNums_size, Option.bind_some]
    have key : ∀ ys : List Int, ys.length ≤ 2 * (i + 1) → ∃ r, spec_FormatTerm.l0 k (n : Int) (strOfNums ys) ((i : Int) + 1) m v = some r ∧ impl_FormatTerm.l0 (k + 1) ys (n : Int) ((i : Int) + 1) m v = some r := by
      intro ys hy
      obtain ⟨r, r1, r2⟩ := ih (i + 1) k ys (by omega) hy (by omega)
      rw [show ((i + 1 : Nat) : Int) = (i : Int) + 1 from by omega] at r1 r2
      exact ⟨r, r1, impl_FormatTerm.mono_l k _ _ _ _ _ _ r2⟩
    by_cases hb : (((m.toNat.testBit (i : Int).toNat).toNat : Nat) : Int) = 0
    · rw [if_pos hb, if_pos hb]
      exact key xs (by omega)
    · rw [if_neg hb, if_neg hb]
      by_cases hc : (((v.toNat.testBit (i : Int).toNat).toNat : Nat) : Int) = 0
      · rw [if_pos hc, if_pos hc]
        rw [if_pos (show xs.length + 1 ≤ 9223372036854775807 by omega), if_pos (show (i : Int) ≤ (i : Int) + 1 by omega), if_pos (show (i : Int) + 1 ≤ 5 by omega), if_pos (show (xs ++ [(33 : Int)] : List Int).length + ([(97 + (i : Int)) % 256] : List Int).length ≤ 9223372036854775807 by simp; omega), if_pos (show xs.length < 140737488355328 by omega), if_pos (show (xs ++ [(33 : Int)] : List Int).length < 140737488355328 by simp; omega)]
        exact key _ (by simp; omega)
      · rw [if_neg hc, if_neg hc]
        rw [if_pos (show (i : Int) ≤ (i : Int) + 1 by omega), if_pos (show (i : Int) + 1 ≤ 5 by omega), if_pos (show xs.length + ([(97 + (i : Int)) % 256] : List Int).length ≤ 9223372036854775807 by simp; omega), if_pos (show xs.length < 140737488355328 by omega)]
        exact key _ (by simp; omega)

theorem format_same (n m v : Int) (hv1 : v ≤ 9223372036854775807) : ∃ r, spec_FormatTerm.f 40 n m v = some r ∧ impl_FormatTerm.f 40 n m v = some r := by
  unfold spec_FormatTerm.f impl_FormatTerm.f
  simp only [impl_IsTerm_is n m v hv1, Option.bind_some]
  cases h : isM n m v
  · refine ⟨⟨#[]⟩, ?_, by simp⟩
    obtain ⟨k, hk⟩ : ∃ k, 40 = k + 1 + 1 := ⟨38, rfl⟩
    rw [hk]
    have e : (⟨#[]⟩ : ByteArray).toList = ([] : List UInt8) := (nil_is []).mpr rfl
    simp [spec_FormatTerm.l0, spec_IsTerm_is, h, spec_FormatTerm.j1, e]
  · obtain ⟨n0, n5, -⟩ := of_decide_eq_true h
    obtain ⟨N, rfl⟩ := Int.eq_ofNat_of_zero_le n0
    simp only [if_true]
    exact fmt_loop N m v h N 0 40 [] (by omega) (by simp) (by omega)
end Go.Proofs.Ytgkmgiojbiikgaa.Fmt
