/- Formulas: the reference's and the program's readers find the same end. Conditions: the bounds that stand in each. -/
import Derived.Test.YtgkmgiojbiikgaaGif
import Derived.Test.YtgkmgiojbiikgaaGif
import Derived.Test.YtgkmgiojbiikgaaPv0
namespace Go.Proofs.Ytgkmgiojbiikgaa.Isf
set_option linter.unusedVariables false
set_option linter.unusedSimpArgs false
open Go Go.RowKit Go.Proofs.Ytgkmgiojbiikgaa.P Go.Proofs.Ytgkmgiojbiikgaa.Bits Go.Proofs.YtgkmgiojbiikgaaW.PrintWords Go.Proofs.YtgkmgiojbiikgaaW.PrintLast Go.Proofs.YtgkmgiojbiikgaaW.PrintMore

theorem ext_size (s : ByteArray) {i : Nat} (h : i ≤ s.size) : (s.extract i s.size).size = s.size - i := by
  rw [ByteArray.size_extract]
  omega

theorem ext_tail (s : ByteArray) {i : Nat} (h : i < s.size) : (s.extract i s.size).extract 1 (s.extract i s.size).size = s.extract (i + 1) s.size := by
  rw [ext_size s (by omega)]
  apply ByteArray.ext
  simp only [ByteArray.data_extract]
  rw [Array.extract_extract]
  congr 1
  have : s.data.size = s.size := rfl
  omega

theorem ext_bt (s : ByteArray) {i : Nat} (h : i < s.size) : bt (s.extract i s.size) 0 = bt s (i : Int) := by
  have h1 : (0 : Int).toNat < (s.extract i s.size).size := by rw [ext_size s (by omega)]; simp; omega
  have h2 : (i : Int).toNat < s.size := by rw [Int.toNat_natCast]; exact h
  unfold bt
  rw [dif_pos h1, dif_pos h2]
  congr 2
  simp only [Int.toNat_natCast, Int.toNat_zero]
  rw [ByteArray.getElem_extract]
  simp

theorem ext_all (s : ByteArray) : s.extract 0 s.size = s := by
  apply ByteArray.ext
  simp only [ByteArray.data_extract]
  exact Array.extract_size

def endO : Option Nat → Int
  | none => -1
  | some e => (e : Int)

def EndAt (s : ByteArray) (k at_ : Nat) (r : Option Nat) : Prop := rp k (s.extract at_ s.size) = r.map (fun e => s.extract e s.size) ∧ (∀ e, r = some e → at_ < e ∧ e ≤ s.size) ∧ ∀ K, 3 * k + 3 ≤ K → spec_l5End.f K s (at_ : Int) = some (endO r)

theorem end_exists (s : ByteArray) (hs : s.size ≤ 1048576) : ∀ (k i : Nat), i ≤ s.size → s.size - i < k → ∃ r, EndAt s k i r := by
  intro k
  induction k with
  | zero => intro i _ h; omega
  | succ k ih =>
    intro i hi hk
    unfold EndAt
    simp only [rp]
    rw [ext_size s hi]
    by_cases h0 : s.size - i = 0
    · rw [if_pos h0]
      refine ⟨none, rfl, by simp, fun K hK => ?_⟩
      obtain ⟨K, rfl⟩ : ∃ q, K = q + 1 := ⟨K - 1, by omega⟩
      simp only [spec_l5End.f]
      rw [if_pos (show (i : Int) ≥ (s.size : Int) by omega)]
      rfl
    · rw [if_neg h0, ← ext_size s hi, ext_tail s (by omega), ext_bt s (by omega)]
      have hw : wrap64 ((i : Int) + 1) = ((i + 1 : Nat) : Int) := by rw [w64 (by omega) (by omega)]; omega
      have HW := Aside0.mk hw
      clear hw
      have h8 : ∀ K, spec_l5End.f (K + 1) s (i : Int) = (if (bt s (i : Int)) = 97 ∨ (bt s (i : Int)) = 98 ∨ (bt s (i : Int)) = 99 ∨ (bt s (i : Int)) = 100 ∨ (bt s (i : Int)) = 101 ∨ (bt s (i : Int)) = 48 ∨ (bt s (i : Int)) = 49 then spec_l5End.j0 K s (i : Int) (bt s (i : Int)) true else spec_l5End.j0 K s (i : Int) (bt s (i : Int)) false) := by
        intro K
        simp only [spec_l5End.f]
        rw [if_neg (show ¬ (i : Int) ≥ (s.size : Int) by omega), if_pos (show 0 ≤ (i : Int) by omega), if_pos (show (i : Int) < (s.size : Int) by omega)]
        generalize bt s (i : Int) = c
        by_cases a1 : c = 97
        · subst a1; rfl
        · rw [if_neg a1]
          by_cases a2 : c = 98
          · subst a2; rfl
          · rw [if_neg a2]
            by_cases a3 : c = 99
            · subst a3; rfl
            · rw [if_neg a3]
              by_cases a4 : c = 100
              · subst a4; rfl
              · rw [if_neg a4]
                by_cases a5 : c = 101
                · subst a5; rfl
                · rw [if_neg a5]
                  by_cases a6 : c = 48
                  · subst a6; rfl
                  · rw [if_neg a6]
                    by_cases a7 : c = 49
                    · subst a7; rfl
                    · rw [if_neg (by omega), show (c == 49) = false from by rw [beq_eq_false_iff_ne]; exact a7]
      generalize bt s (i : Int) = c at *
      by_cases hl : leafC c = true
      · rw [if_pos hl]
        unfold leafC at hl
        simp only [Bool.or_eq_true, decide_eq_true_eq, beq_iff_eq] at hl
        refine ⟨some (i + 1), rfl, by intro e he; injection he with he; omega, fun K hK => ?_⟩
        obtain ⟨K, rfl⟩ : ∃ q, K = q + 1 + 1 := ⟨K - 2, by omega⟩
        rw [h8, if_pos (by omega)]
        simp only [spec_l5End.j0, if_true]
        rw [HW.out]
        rfl
      · rw [if_neg hl]
        unfold leafC at hl
        simp only [Bool.or_eq_true, decide_eq_true_eq, beq_iff_eq] at hl
        have hnl : ¬ (c = 97 ∨ c = 98 ∨ c = 99 ∨ c = 100 ∨ c = 101 ∨ c = 48 ∨ c = 49) := by omega
        obtain ⟨r, p1, p2, p3⟩ := ih (i + 1) (by omega) (by omega)
        by_cases h33 : c = 33
        · rw [if_pos h33]
          refine ⟨r, p1, fun e he => by have := p2 e he; omega, fun K hK => ?_⟩
          obtain ⟨K, rfl⟩ : ∃ q, K = q + 1 + 1 := ⟨K - 2, by omega⟩
          rw [h8, if_neg hnl]
          simp only [spec_l5End.j0, Bool.false_eq_true, if_false]
          rw [if_pos h33, HW.out, p3 K (by omega)]
          rfl
        · rw [if_neg h33]
          by_cases hb : binC c = true
          · rw [if_pos hb]
            unfold binC at hb
            simp only [Bool.or_eq_true, beq_iff_eq] at hb
            have hj : ∀ K, spec_l5End.f (K + 1 + 1) s (i : Int) = spec_l5End.j1 K s (i : Int) true := by
              intro K
              rw [h8, if_neg hnl]
              simp only [spec_l5End.j0, Bool.false_eq_true, if_false]
              rw [if_neg h33]
              by_cases a1 : c = 38
              · subst a1; rfl
              · rw [if_neg a1]
                by_cases a2 : c = 124
                · subst a2; rfl
                · rw [if_neg a2, show (c == 94) = true from by rw [beq_iff_eq]; omega]
            rw [p1]
            cases r with
            | none =>
              refine ⟨none, rfl, by simp, fun K hK => ?_⟩
              obtain ⟨K, rfl⟩ : ∃ q, K = q + 1 + 1 + 1 := ⟨K - 3, by omega⟩
              rw [hj]
              simp only [spec_l5End.j1, if_true]
              rw [HW.out, p3 K (by omega)]
              rfl
            | some e =>
              have he := p2 e rfl
              obtain ⟨r2, t1, t2, t3⟩ := ih e (by omega) (by omega)
              refine ⟨r2, t1, fun e' he' => by have := t2 e' he'; omega, fun K hK => ?_⟩
              obtain ⟨K, rfl⟩ : ∃ q, K = q + 1 + 1 + 1 := ⟨K - 3, by omega⟩
              rw [hj]
              simp only [spec_l5End.j1, if_true]
              rw [HW.out, p3 K (by omega)]
              simp only [Option.bind_some, endO]
              rw [if_neg (by omega), t3 K (by omega)]
              rfl
          · rw [if_neg hb]
            unfold binC at hb
            simp only [Bool.or_eq_true, beq_iff_eq] at hb
            refine ⟨none, rfl, by simp, fun K hK => ?_⟩
            obtain ⟨K, rfl⟩ : ∃ q, K = q + 1 + 1 + 1 := ⟨K - 3, by omega⟩
            rw [h8, if_neg hnl]
            simp only [spec_l5End.j0, Bool.false_eq_true, if_false]
            rw [if_neg h33, if_neg (by omega), if_neg (by omega), show (c == 94) = false from by rw [beq_eq_false_iff_ne]; omega]
            simp only [spec_l5End.j1, Bool.false_eq_true, if_false]
            rfl

def isF (s : ByteArray) : Bool := decide (s.size ≤ 60) && wholeF s

theorem impl_is (s : ByteArray) : impl_IsFormula.f s = some (isF s) := rfl

theorem spec_is (s : ByteArray) {K : Nat} (hK : 200 ≤ K) : spec_IsFormula.f K s = some (isF s) := by
  unfold spec_IsFormula.f isF
  by_cases h : s.size ≤ 60
  · rw [if_pos (by omega), decide_eq_true h, Bool.true_and]
    unfold wholeF
    obtain ⟨r, p1, p2, p3⟩ := end_exists s (by omega) (s.size + 1) 0 (by omega) (by omega)
    rw [ext_all] at p1
    rw [p1]
    by_cases h0 : s.size > 0
    · have p3' : spec_l5End.f K s 0 = some (endO r) := p3 K (by omega)
      rw [if_pos (by omega), p3']
      simp only [Option.bind_some]
      cases r with
      | none =>
        show some ((-1 : Int) == (s.size : Int)) = some false
        have : ((-1 : Int) == (s.size : Int)) = false := by
          rw [beq_eq_false_iff_ne]
          omega
        rw [this]
      | some e =>
        have := p2 e rfl
        show some ((e : Int) == (s.size : Int)) = some ((s.extract e s.size).size == 0)
        rw [ext_size s this.2]
        congr 1
        rw [Bool.eq_iff_iff, beq_iff_eq, beq_iff_eq]
        omega
    · rw [if_neg (by omega)]
      have hz : s.size = 0 := by omega
      cases r with
      | none => rfl
      | some e =>
        have := p2 e rfl
        omega
  · rw [if_neg (by omega), decide_eq_false h, Bool.false_and]
end Go.Proofs.Ytgkmgiojbiikgaa.Isf
