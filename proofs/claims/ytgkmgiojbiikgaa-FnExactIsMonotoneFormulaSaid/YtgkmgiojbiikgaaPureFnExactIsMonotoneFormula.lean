/- The law FnExactIsMonotoneFormula: its plain function answers true for all its arguments. No conditions but those of the statement. -/
import Derived.Test.YtgkmgiojbiikgaaFml
import Derived.Test.YtgkmgiojbiikgaaPLFnExactIsMonotoneFormula
import Derived.Test.YtgkmgiojbiikgaaPLFnExactIsMonotoneFormula
import Derived.Test.YtgkmgiojbiikgaaPv1
import Derived.Test.YtgkmgiojbiikgaaPy2
namespace Go.Proofs.Ytgkmgiojbiikgaa.Pure
set_option linter.unusedVariables false
set_option linter.unusedSimpArgs false
open Go Go.RowKit Go.Proofs.Ytgkmgiojbiikgaa.P Go.Proofs.Ytgkmgiojbiikgaa.Bits Go.Proofs.Ytgkmgiojbiikgaa.Isf Go.Proofs.Ytgkmgiojbiikgaa.Fml Go.Proofs.YtgkmgiojbiikgaaW.PrintWords Go.Proofs.YtgkmgiojbiikgaaW.PrintLast Go.Proofs.YtgkmgiojbiikgaaW.PrintMore

def badAt (s : ByteArray) (j : Nat) : Prop := bt s (j : Int) = 33 ∨ bt s (j : Int) = 94

theorem mono_yes (s : ByteArray) (hs : s.size ≤ 1048576) : ∀ (d i k : Nat), i + d = s.size → d + 200 < k → (∃ j, i ≤ j ∧ j < s.size ∧ badAt s j) → spec_IsMonotoneFormula.l0 k s (i : Int) = some false := by
  intro d
  induction d with
  | zero => rintro i k hi hk ⟨j, h1, h2, _⟩; omega
  | succ d ih =>
    rintro i k hi hk ⟨j, h1, h2, h3⟩
    obtain ⟨k, rfl⟩ : ∃ q, k = q + 1 := ⟨k - 1, by omega⟩
    simp only [spec_IsMonotoneFormula.l0]
    rw [if_pos (show (i : Int) < (s.size : Int) by omega), if_pos (show 0 ≤ (i : Int) by omega), w64 (by omega) (by omega)]
    by_cases a1 : bt s (i : Int) = 33
    · rw [if_pos a1]
    · rw [if_neg a1]
      by_cases a2 : bt s (i : Int) = 94
      · rw [if_pos a2]
      · rw [if_neg a2]
        have hne : j ≠ i := by
          rintro rfl
          unfold badAt at h3
          omega
        exact ih (i + 1) k (by omega) (by omega) ⟨j, by omega, h2, h3⟩

theorem mono_no (s : ByteArray) (hs : s.size ≤ 1048576) (hno : ∀ j, j < s.size → ¬ badAt s j) : ∀ (d i k : Nat), i + d = s.size → d + 200 < k → spec_IsMonotoneFormula.l0 k s (i : Int) = some (isF s) := by
  intro d
  induction d with
  | zero =>
    intro i k hi hk
    obtain ⟨k, rfl⟩ : ∃ q, k = q + 1 := ⟨k - 1, by omega⟩
    simp only [spec_IsMonotoneFormula.l0]
    rw [if_neg (show ¬ (i : Int) < (s.size : Int) by omega), spec_is s (by omega)]
    rfl
  | succ d ih =>
    intro i k hi hk
    obtain ⟨k, rfl⟩ : ∃ q, k = q + 1 := ⟨k - 1, by omega⟩
    have h := hno i (by omega)
    unfold badAt at h
    simp only [spec_IsMonotoneFormula.l0]
    rw [if_pos (show (i : Int) < (s.size : Int) by omega), if_pos (show 0 ≤ (i : Int) by omega), w64 (by omega) (by omega), if_neg (by omega), if_neg (by omega)]
    exact ih (i + 1) k (by omega) (by omega)

theorem bad_any (s : ByteArray) : Lib.containsAny s.data.toList (⟨#[33, 94]⟩ : ByteArray).data.toList = true ↔ ∃ j, j < s.size ∧ badAt s j := by
  rw [containsAny_mem]
  have h33 := mem_bytes s 33 (by decide)
  have h94 := mem_bytes s 94 (by decide)
  have el : (⟨#[33, 94]⟩ : ByteArray).data.toList = [UInt8.ofNat 33, UInt8.ofNat 94] := rfl
  rw [el]
  constructor
  · rintro ⟨b, hb, hc⟩
    simp only [List.mem_cons, List.not_mem_nil, or_false] at hc
    rcases hc with rfl | rfl
    · obtain ⟨j, h1, h2⟩ := h33.mp hb
      exact ⟨j, h1, Or.inl h2⟩
    · obtain ⟨j, h1, h2⟩ := h94.mp hb
      exact ⟨j, h1, Or.inr h2⟩
  · rintro ⟨j, h1, h2 | h2⟩
    · exact ⟨_, h33.mpr ⟨j, h1, h2⟩, by simp⟩
    · exact ⟨_, h94.mpr ⟨j, h1, h2⟩, by simp⟩

theorem FnExactIsMonotoneFormula : laws_FnExactIsMonotoneFormula.Pure := by
  intro s _
  refine ⟨1048576 + 201, ?_⟩
  unfold laws_FnExactIsMonotoneFormula.f
  by_cases hs : (s.size : Int) > 1048576
  · rw [if_pos hs]
  · rw [if_neg hs]
    have hsz : s.size ≤ 1048576 := by omega
    have hsp : spec_IsMonotoneFormula.f (1048576 + 201) s = some (isF s && !Lib.containsAny s.data.toList (⟨#[33, 94]⟩ : ByteArray).data.toList) := by
      unfold spec_IsMonotoneFormula.f
      by_cases hb : ∃ j, j < s.size ∧ badAt s j
      · rw [(bad_any s).mpr hb]
        obtain ⟨j, h1, h2⟩ := hb
        rw [show spec_IsMonotoneFormula.l0 (1048576 + 201) s 0 = some false from mono_yes s hsz s.size 0 _ (by omega) (by omega) ⟨j, by omega, h1, h2⟩]
        simp
      · have e : Lib.containsAny s.data.toList (⟨#[33, 94]⟩ : ByteArray).data.toList = false := by
          rw [← Bool.not_eq_true]
          exact fun q => hb ((bad_any s).mp q)
        rw [e, show spec_IsMonotoneFormula.l0 (1048576 + 201) s 0 = some (isF s) from mono_no s hsz (fun j hj q => hb ⟨j, hj, q⟩) s.size 0 _ (by omega) (by omega)]
        simp
    have him : impl_IsMonotoneFormula.f s = some (isF s && !Lib.containsAny s.data.toList (⟨#[33, 94]⟩ : ByteArray).data.toList) := by
      unfold impl_IsMonotoneFormula.f
      rw [impl_is]
      cases hF : isF s
      · simp
      · have hh := isF_signs hF
        simp only [Option.bind_some, if_true, Bool.true_and]
        unfold strings_ContainsAny.f
        rw [if_pos ⟨by omega, by decide, ascii_of hh.2, by decide⟩]
        rfl
    rw [hsp, him]
    simp

end Go.Proofs.Ytgkmgiojbiikgaa.Pure
