/- The law FnExactIsTree: its plain function answers true for all its arguments. No conditions but those of the statement. -/
import Derived.Test.YtgkmgiojbiikgaaIsf
import Derived.Test.YtgkmgiojbiikgaaGit
import Derived.Test.YtgkmgiojbiikgaaShl
import Derived.Test.YtgkmgiojbiikgaaPLFnExactIsTree
import Derived.Test.YtgkmgiojbiikgaaG1t
import Derived.Test.YtgkmgiojbiikgaaGit
import Derived.Test.YtgkmgiojbiikgaaPLFnExactIsTree
import Derived.Test.YtgkmgiojbiikgaaPw0
import Derived.Test.YtgkmgiojbiikgaaPw1
namespace Go.Proofs.Ytgkmgiojbiikgaa.Pure
set_option linter.unusedVariables false
set_option linter.unusedSimpArgs false
open Go Go.RowKit Go.Proofs.Ytgkmgiojbiikgaa.P Go.Proofs.Ytgkmgiojbiikgaa.Bits Go.Proofs.Ytgkmgiojbiikgaa.Tab Go.Proofs.Ytgkmgiojbiikgaa.Shl Go.Proofs.Ytgkmgiojbiikgaa.Isf Go.Proofs.YtgkmgiojbiikgaaW.PrintWords Go.Proofs.YtgkmgiojbiikgaaW.PrintLast Go.Proofs.YtgkmgiojbiikgaaW.PrintMore

def pop (a : Nat) : Nat := (a.testBit 0).toNat + (a.testBit 1).toNat + (a.testBit 2).toNat + (a.testBit 3).toNat + (a.testBit 4).toNat
def most (a : Nat) : Nat := 2 ^ (6 - pop a) - 1
theorem most_all : ∀ (a : Fin 32) (v : Fin 5), a.val.testBit v.val = true ∨ 1 + 2 * most (a.val ||| 2 ^ v.val) = most a.val := by decide +kernel
theorem most_pos : ∀ (a : Fin 32), 1 ≤ most a.val := by decide +kernel

def TreeAt (s : ByteArray) (k i a : Nat) (r : Option Nat) : Prop := rt k (s.extract i s.size) a = r.map (fun e => s.extract e s.size) ∧ (∀ e, r = some e → i < e ∧ e ≤ s.size ∧ e - i ≤ most a) ∧ ∀ K, 3 * k + 3 ≤ K → spec_l7End.f K s (i : Int) (a : Int) = some (endO r)

theorem tree_exists (s : ByteArray) (hs : s.size ≤ 1048576) : ∀ (k i a : Nat), a < 32 → i ≤ s.size → s.size - i < k → ∃ r, TreeAt s k i a r := by
  intro k
  induction k with
  | zero => intro i a _ _ h; omega
  | succ k ih =>
    intro i a ha hi hk
    unfold TreeAt
    simp only [rt]
    rw [ext_size s hi]
    by_cases h0 : s.size - i = 0
    · rw [if_pos h0]
      refine ⟨none, rfl, by simp, fun K hK => ?_⟩
      obtain ⟨K, rfl⟩ : ∃ q, K = q + 1 := ⟨K - 1, by omega⟩
      simp only [spec_l7End.f]
      rw [if_pos (show (i : Int) ≥ (s.size : Int) by omega)]
      rfl
    · rw [if_neg h0, ← ext_size s hi, ext_tail s (by omega), ext_bt s (by omega)]
      have hm := most_pos ⟨a, ha⟩
      simp only at hm
      have hw : wrap64 ((i : Int) + 1) = ((i + 1 : Nat) : Int) := by rw [w64 (by omega) (by omega)]; omega
      have HW := Aside0.mk hw
      clear hw
      have hbr := bt_range s (i : Int)
      have h8 : ∀ K, spec_l7End.f (K + 1) s (i : Int) (a : Int) = (if bt s (i : Int) = 48 ∨ bt s (i : Int) = 49 then spec_l7End.j0 K s (i : Int) (a : Int) true else spec_l7End.j0 K s (i : Int) (a : Int) false) := by
        intro K
        simp only [spec_l7End.f]
        rw [if_neg (show ¬ (i : Int) ≥ (s.size : Int) by omega), if_pos (show 0 ≤ (i : Int) by omega), if_pos (show (i : Int) < (s.size : Int) by omega)]
        generalize bt s (i : Int) = c
        by_cases a1 : c = 48
        · rw [if_pos a1, if_pos (Or.inl a1)]
        · rw [if_neg a1]
          by_cases a2 : c = 49
          · rw [if_pos (Or.inr a2), show (c == 49) = true from by rw [beq_iff_eq]; exact a2]
          · rw [if_neg (by omega), show (c == 49) = false from by rw [beq_eq_false_iff_ne]; exact a2]
      have hj : ∀ K, spec_l7End.j0 (K + 1) s (i : Int) (a : Int) false = (if 97 ≤ bt s (i : Int) ∧ bt s (i : Int) < 102 then spec_l7End.j1 K s (i : Int) (a : Int) (bt s (i : Int) - 97) (a.testBit (bt s (i : Int) - 97).toNat) else some (-1)) ∨ K = 0 := by
        intro K
        by_cases hK : K = 0
        · exact Or.inr hK
        · left
          obtain ⟨K, rfl⟩ : ∃ q, K = q + 1 := ⟨K - 1, by omega⟩
          simp only [spec_l7End.j0, Bool.false_eq_true, if_false]
          rw [if_pos (show 0 ≤ (i : Int) by omega), if_pos (show (i : Int) < (s.size : Int) by omega)]
          generalize bt s (i : Int) = c at hbr ⊢
          rw [w64 (x := c) (by omega) (by omega), w64 (x := c - 97) (by omega) (by omega), l1In_is]
          simp only [Option.bind_some]
          by_cases hc : 97 ≤ c ∧ c < 102
          · rw [if_pos hc, if_pos (decide_eq_true (by omega)), if_pos (by omega), shr_is (by omega), bit_is (by omega) (by omega) (by omega) (by omega), Int.toNat_natCast]
            cases a.testBit (c - 97).toNat <;> rfl
          · rw [if_neg hc, if_neg (by rw [decide_eq_true_eq]; omega)]
            simp only [spec_l7End.j1, if_true]
      generalize bt s (i : Int) = c at *
      by_cases hl : c = 48 ∨ c = 49
      · rw [if_pos hl]
        refine ⟨some (i + 1), rfl, by intro e he; injection he with he; omega, fun K hK => ?_⟩
        obtain ⟨K, rfl⟩ : ∃ q, K = q + 1 + 1 := ⟨K - 2, by omega⟩
        rw [h8, if_pos hl]
        simp only [spec_l7End.j0, if_true]
        rw [HW.out]
        rfl
      · rw [if_neg hl]
        by_cases hc : 97 ≤ c ∧ c < 102
        · rw [if_pos hc]
          obtain ⟨v, hv⟩ : ∃ v : Nat, (c - 97).toNat = v := ⟨_, rfl⟩
          have hcv : c - 97 = (v : Int) := by omega
          rw [hv]
          rw [hv, hcv] at hj
          have hv5 : v < 5 := by omega
          by_cases hb : a.testBit v = true
          · rw [if_pos hb]
            refine ⟨none, rfl, by simp, fun K hK => ?_⟩
            obtain ⟨K, rfl⟩ : ∃ q, K = q + 1 + 1 + 1 := ⟨K - 3, by omega⟩
            rw [h8, if_neg hl]
            rcases hj (K + 1) with e | e
            · rw [e, if_pos hc, hb]
              simp only [spec_l7End.j1, if_true]
              rfl
            · omega
          · rw [if_neg hb]
            have hb' : a.testBit v = false := by simpa using hb
            have hlt := or_lt_32 ha hv5
            have hmo := most_all ⟨a, ha⟩ ⟨v, hv5⟩
            simp only [hb', Bool.false_eq_true, false_or] at hmo
            have hor : bits .or .i64 (a : Int) (shl .i64 1 (v : Int)) = ((a ||| 2 ^ v : Nat) : Int) := Shl.or_pow (by rw [p63]; omega) (by omega)
            have HO := Aside0.mk hor
            clear hor
            generalize a ||| 2 ^ v = a2 at *
            obtain ⟨r, p1, p2, p3⟩ := ih (i + 1) a2 hlt (by omega) (by omega)
            rw [p1]
            have hj1 : ∀ K, spec_l7End.f (K + 1 + 1 + 1) s (i : Int) (a : Int) = ((spec_l7End.f K s ((i + 1 : Nat) : Int) (a2 : Int)).bind fun t884 => (if t884 < 0 then (some (-1)) else ((spec_l7End.f K s t884 (a2 : Int)).bind fun t885 => (some t885)))) := by
              intro K
              rw [h8, if_neg hl]
              rcases hj (K + 1) with e | e
              · rw [e, if_pos hc, hb']
                simp only [spec_l7End.j1, Bool.false_eq_true, if_false]
                rw [if_pos (show 0 ≤ (v : Int) by omega), HW.out, HO.out]
              · omega
            cases r with
            | none =>
              refine ⟨none, rfl, by simp, fun K hK => ?_⟩
              obtain ⟨K, rfl⟩ : ∃ q, K = q + 1 + 1 + 1 := ⟨K - 3, by omega⟩
              rw [hj1, p3 K (by omega)]
              rfl
            | some e =>
              have he := p2 e rfl
              obtain ⟨r2, t1, t2, t3⟩ := ih e a2 hlt (by omega) (by omega)
              refine ⟨r2, t1, fun e' he' => by have := t2 e' he'; omega, fun K hK => ?_⟩
              obtain ⟨K, rfl⟩ : ∃ q, K = q + 1 + 1 + 1 := ⟨K - 3, by omega⟩
              rw [hj1, p3 K (by omega)]
              simp only [Option.bind_some, endO]
              rw [if_neg (by omega), t3 K (by omega)]
              rfl
        · rw [if_neg hc]
          refine ⟨none, rfl, by simp, fun K hK => ?_⟩
          obtain ⟨K, rfl⟩ : ∃ q, K = q + 1 + 1 + 1 := ⟨K - 3, by omega⟩
          rw [h8, if_neg hl]
          rcases hj (K + 1) with e | e
          · rw [e, if_neg hc]
            rfl
          · omega

theorem tree_same (s : ByteArray) (hs : s.size ≤ 1048576) {K : Nat} (hK : 300 ≤ K) : spec_IsTree.f K s = some (wholeT s) := by
  unfold wholeT
  obtain ⟨r, p1, p2, p3⟩ := tree_exists s hs (s.size + 1) 0 0 (by decide) (by omega) (by omega)
  rw [ext_all] at p1
  rw [p1]
  have hm : most 0 = 63 := by decide +kernel
  rw [hm] at p2
  unfold spec_IsTree.f
  by_cases h : s.size ≤ 63
  · rw [if_pos (by omega)]
    by_cases h0 : s.size > 0
    · have p3' : spec_l7End.f K s 0 0 = some (endO r) := p3 K (by omega)
      rw [if_pos (by omega), p3']
      simp only [Option.bind_some]
      cases r with
      | none =>
        have : ((-1 : Int) == (s.size : Int)) = false := by
          rw [beq_eq_false_iff_ne]
          omega
        show some ((-1 : Int) == (s.size : Int)) = some false
        rw [this]
      | some e =>
        have := p2 e rfl
        show some ((e : Int) == (s.size : Int)) = some ((s.extract e s.size).size == 0)
        rw [ext_size s this.2.1]
        congr 1
        rw [Bool.eq_iff_iff, beq_iff_eq, beq_iff_eq]
        omega
    · rw [if_neg (by omega)]
      cases r with
      | none => rfl
      | some e =>
        have := p2 e rfl
        omega
  · rw [if_neg (by omega)]
    cases r with
    | none => rfl
    | some e =>
      have := p2 e rfl
      show some false = some ((s.extract e s.size).size == 0)
      rw [ext_size s this.2.1]
      congr 1
      symm
      rw [beq_eq_false_iff_ne]
      omega

theorem FnExactIsTree : laws_FnExactIsTree.Pure := by
  intro s _
  refine ⟨300, ?_⟩
  unfold laws_FnExactIsTree.f
  by_cases hs : (s.size : Int) > 1048576
  · rw [if_pos hs]
  · rw [if_neg hs, tree_same s (by omega) (by omega)]
    unfold impl_IsTree.f
    simp

end Go.Proofs.Ytgkmgiojbiikgaa.Pure
