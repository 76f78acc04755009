/- The law FnExactDualFormula: its plain function answers true for all its arguments. No conditions but those of the statement. -/
import Derived.Test.YtgkmgiojbiikgaaFml
import Derived.Test.YtgkmgiojbiikgaaPLFnExactDualFormula
import Derived.Test.YtgkmgiojbiikgaaGsl
import Derived.Test.YtgkmgiojbiikgaaPLFnExactDualFormula
import Derived.Test.YtgkmgiojbiikgaaPz1
namespace Go.Proofs.Ytgkmgiojbiikgaa.Pure
set_option linter.unusedVariables false
set_option linter.unusedSimpArgs false
open Go Go.RowKit Go.Proofs.Ytgkmgiojbiikgaa.P Go.Proofs.Ytgkmgiojbiikgaa.Bits Go.Proofs.Ytgkmgiojbiikgaa.Isf Go.Proofs.Ytgkmgiojbiikgaa.Fml Go.Proofs.YtgkmgiojbiikgaaW.PrintWords Go.Proofs.YtgkmgiojbiikgaaW.PrintLast Go.Proofs.YtgkmgiojbiikgaaW.PrintMore

def dualP (s : ByteArray) (i : Nat) : ByteArray := strOfNums ((List.range i).map fun (j : Nat) => othC (bt s (j : Int)))

theorem dualP_size (s : ByteArray) (i : Nat) : (dualP s i).size = i := by
  unfold dualP
  rw [strOfNums_size]
  simp
theorem dualP_snoc (s : ByteArray) (i : Nat) : dualP s (i + 1) = dualP s i ++ strOfNums [othC (bt s (i : Int))] := by
  unfold dualP
  rw [List.range_succ, List.map_append, strOfNums_append]
  rfl

theorem one_char (s : ByteArray) {i : Nat} (h : i < s.size) : s.extract i (i + 1) = strOfNums [bt s (i : Int)] := by
  have h2 : (i : Int).toNat < s.size := by rw [Int.toNat_natCast]; exact h
  have hsz : (s.extract i (i + 1)).size = 1 := by
    rw [ByteArray.size_extract]
    omega
  apply ByteArray.ext
  apply Array.ext'
  apply List.ext_getElem
  · rw [strOfNums_data]
    have hl : (s.extract i (i + 1)).data.toList.length = (s.extract i (i + 1)).size := by rw [Array.length_toList]; rfl
    rw [hl, hsz]
    rfl
  · intro j h1 h3
    have hj : j = 0 := by
      have hl : (s.extract i (i + 1)).data.toList.length = (s.extract i (i + 1)).size := by rw [Array.length_toList]; rfl
      omega
    subst hj
    simp only [strOfNums_data, List.map_cons, List.map_nil, List.getElem_cons_zero, Array.getElem_toList]
    unfold bt
    rw [dif_pos h2]
    simp only [Int.toNat_natCast]
    rw [UInt8.ofNat_toNat]
    simp
    rfl

theorem dual_loop (s : ByteArray) (hF : isF s = true) (hs : s.size ≤ 60) : ∀ (d i k : Nat), i + d = s.size → 2 * d + 210 ≤ k →
    ((∃ j, i ≤ j ∧ j < s.size ∧ bt s (j : Int) = 94) → spec_DualFormula.l0 k s (dualP s i) (i : Int) = some ((⟨#[]⟩ : ByteArray), false)) ∧
    ((¬ ∃ j, i ≤ j ∧ j < s.size ∧ bt s (j : Int) = 94) → spec_DualFormula.l0 k s (dualP s i) (i : Int) = some (dualP s s.size, true)) := by
  intro d
  induction d with
  | zero =>
    intro i k hi hk
    obtain ⟨k, rfl⟩ : ∃ q, k = q + 1 + 1 := ⟨k - 2, by omega⟩
    refine ⟨fun ⟨j, h1, h2, _⟩ => by omega, fun _ => ?_⟩
    obtain rfl : i = s.size := by omega
    simp only [spec_DualFormula.l0]
    rw [if_neg (by omega)]
    simp only [spec_DualFormula.j1, Bool.false_eq_true, if_false]
    rw [spec_is s (by omega), hF]
    rfl
  | succ d ih =>
    intro i k hi hk
    obtain ⟨k, rfl⟩ : ∃ q, k = q + 1 + 1 := ⟨k - 2, by omega⟩
    obtain ⟨ih1, ih2⟩ := ih (i + 1) k (by omega) (by omega)
    have hz := dualP_size s i
    have hc := one_char s (show i < s.size by omega)
    have e : spec_DualFormula.l0 (k + 1 + 1) s (dualP s i) (i : Int) = if bt s (i : Int) = 94 then some ((⟨#[]⟩ : ByteArray), false) else spec_DualFormula.l0 k s (dualP s (i + 1)) ((i + 1 : Nat) : Int) := by
      rw [dualP_snoc]
      generalize dualP s i = P at hz ⊢
      simp only [spec_DualFormula.l0]
      rw [if_pos (show (i : Int) < (s.size : Int) by omega), spec_is s (by omega), hF]
      simp only [Option.bind_some, spec_DualFormula.j1, if_true]
      rw [if_pos (show 0 ≤ (i : Int) by omega), if_pos (show (i : Int) < (s.size : Int) by omega), show wrap64 ((i : Int) + 1) = ((i + 1 : Nat) : Int) from by rw [w64 (by omega) (by omega)]; omega]
      simp only [Int.toNat_natCast]
      rw [hc]
      generalize bt s (i : Int) = c
      rw [if_pos (show P.size + 1 ≤ 9223372036854775807 by omega), if_pos (show P.size + 1 ≤ 9223372036854775807 by omega), if_pos (show P.size + 1 ≤ 9223372036854775807 by omega), if_pos (show P.size + 1 ≤ 9223372036854775807 by omega)]
      by_cases a1 : c = 38
      · subst a1; rfl
      · rw [if_neg a1]
        by_cases a2 : c = 124
        · subst a2; rfl
        · rw [if_neg a2]
          by_cases a3 : c = 48
          · subst a3; rfl
          · rw [if_neg a3]
            by_cases a4 : c = 49
            · subst a4; rfl
            · rw [if_neg a4]
              by_cases a5 : c = 94
              · rw [if_pos a5, if_pos a5]
              · rw [if_neg a5, if_neg a5, if_pos (show (i : Int) ≤ ((i + 1 : Nat) : Int) by omega), if_pos (show ((i + 1 : Nat) : Int) ≤ (s.size : Int) by omega), if_pos (by rw [strOfNums_size]; simp; omega)]
                have : othC c = c := by unfold othC; rw [if_neg a1, if_neg a2, if_neg a3, if_neg a4]
                rw [this]
    rw [e]
    by_cases a5 : bt s (i : Int) = 94
    · rw [if_pos a5]
      exact ⟨fun _ => rfl, fun q => absurd ⟨i, by omega, by omega, a5⟩ q⟩
    · rw [if_neg a5]
      constructor
      · rintro ⟨j, h1, h2, h3⟩
        have : j ≠ i := by rintro rfl; exact a5 h3
        exact ih1 ⟨j, by omega, h2, h3⟩
      · intro q
        exact ih2 (fun ⟨j, h1, h2, h3⟩ => q ⟨j, by omega, h2, h3⟩)

theorem spec_dual_not (s : ByteArray) (hF : isF s = false) : spec_DualFormula.f 400 s = some ((⟨#[]⟩ : ByteArray), false) := by
  unfold spec_DualFormula.f
  obtain ⟨k, hk⟩ : ∃ k, 400 = k + 1 + 1 := ⟨398, rfl⟩
  rw [hk]
  simp only [spec_DualFormula.l0]
  have e : spec_DualFormula.j1 (k + 1) s (⟨#[]⟩ : ByteArray) 0 false = some ((⟨#[]⟩ : ByteArray), false) := by
    simp only [spec_DualFormula.j1, Bool.false_eq_true, if_false]
    rw [spec_is s (by omega), hF]
    rfl
  split
  · rw [spec_is s (by omega), hF]
    exact e
  · exact e

theorem FnExactDualFormula : laws_FnExactDualFormula.Pure := by
  intro s _
  refine ⟨400, ?_⟩
  unfold laws_FnExactDualFormula.f
  by_cases hs : (s.size : Int) > 1048576
  · rw [if_pos hs]
  · rw [if_neg hs]
    have hsz : s.size ≤ 281474976710656 := by omega
    have him : impl_DualFormula.f s = (if isF s = true then (if decide (0 ≤ Lib.indexByte s.data.toList 94) = true then some ((⟨#[]⟩ : ByteArray), false) else some (dualP s s.size, true)) else some ((⟨#[]⟩ : ByteArray), false)) := by
      unfold impl_DualFormula.f
      rw [if_pos hsz]
      rfl
    rw [him]
    cases hF : isF s
    · rw [spec_dual_not s hF]
      simp
    · have hh := isF_signs hF
      have hm := (indexByte_mem s.data.toList 94).trans (mem_bytes s 94 (by decide))
      obtain ⟨d1, d2⟩ := dual_loop s hF hh.1 s.size 0 400 (by omega) (by omega)
      have e0 : spec_DualFormula.f 400 s = spec_DualFormula.l0 400 s (dualP s 0) ((0 : Nat) : Int) := rfl
      rw [e0]
      by_cases hb : ∃ j, j < s.size ∧ bt s (j : Int) = 94
      · rw [decide_eq_true (hm.mpr hb)]
        obtain ⟨j, h1, h2⟩ := hb
        rw [d1 ⟨j, by omega, h1, h2⟩]
        simp
      · rw [decide_eq_false (fun q => hb (hm.mp q)), d2 (fun ⟨j, _, h1, h2⟩ => hb ⟨j, h1, h2⟩)]
        simp

end Go.Proofs.Ytgkmgiojbiikgaa.Pure
