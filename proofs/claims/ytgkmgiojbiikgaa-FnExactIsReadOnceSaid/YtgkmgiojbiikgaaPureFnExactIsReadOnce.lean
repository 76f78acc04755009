/- The law FnExactIsReadOnce: its plain function answers true for all its arguments. No conditions but those of the statement. -/
import Derived.Test.YtgkmgiojbiikgaaFml
import Derived.Test.YtgkmgiojbiikgaaPLFnExactIsReadOnce
import Derived.Test.YtgkmgiojbiikgaaPLFnExactIsReadOnce
import Derived.Test.YtgkmgiojbiikgaaPv1
import Derived.Test.YtgkmgiojbiikgaaPy0
namespace Go.Proofs.Ytgkmgiojbiikgaa.Pure
set_option linter.unusedVariables false
set_option linter.unusedSimpArgs false
open Go Go.RowKit Go.Proofs.Ytgkmgiojbiikgaa.P Go.Proofs.Ytgkmgiojbiikgaa.Bits Go.Proofs.Ytgkmgiojbiikgaa.Isf Go.Proofs.Ytgkmgiojbiikgaa.Fml Go.Proofs.YtgkmgiojbiikgaaW.PrintWords Go.Proofs.YtgkmgiojbiikgaaW.PrintLast Go.Proofs.YtgkmgiojbiikgaaW.PrintMore

def hit (s : ByteArray) (i j : Nat) : Prop := bt s (i : Int) = bt s (j : Int) ∧ 97 ≤ bt s (i : Int) ∧ bt s (i : Int) ≤ 101

theorem once_inner (s : ByteArray) (hs : s.size ≤ 1048576) (i : Nat) (hi : i < s.size) : ∀ (e j k : Nat), j + e = i → e + 1 < k →
    ((∃ b, j ≤ b ∧ b < i ∧ hit s i b) → spec_IsReadOnce.l1 k s (i : Int) (j : Int) = some false) ∧
    ((¬ ∃ b, j ≤ b ∧ b < i ∧ hit s i b) → ∃ k', k = k' + e + 1 ∧ spec_IsReadOnce.l1 k s (i : Int) (j : Int) = spec_IsReadOnce.l0 k' s ((i + 1 : Nat) : Int)) := by
  intro e
  induction e with
  | zero =>
    intro j k hj hk
    obtain ⟨k, rfl⟩ : ∃ q, k = q + 1 := ⟨k - 1, by omega⟩
    refine ⟨fun ⟨b, h1, h2, _⟩ => by omega, fun _ => ⟨k, by omega, ?_⟩⟩
    simp only [spec_IsReadOnce.l1]
    rw [if_neg (show ¬ (j : Int) < (i : Int) by omega), w64 (by omega) (by omega)]
    rfl
  | succ e ih =>
    intro j k hj hk
    obtain ⟨k, rfl⟩ : ∃ q, k = q + 1 := ⟨k - 1, by omega⟩
    obtain ⟨ih1, ih2⟩ := ih (j + 1) k (by omega) (by omega)
    have step : (hit s i j → spec_IsReadOnce.l1 (k + 1) s (i : Int) (j : Int) = some false) ∧ (¬ hit s i j → spec_IsReadOnce.l1 (k + 1) s (i : Int) (j : Int) = spec_IsReadOnce.l1 k s (i : Int) ((j + 1 : Nat) : Int)) := by
      simp only [spec_IsReadOnce.l1]
      rw [if_pos (show (j : Int) < (i : Int) by omega), if_pos (show 0 ≤ (i : Int) by omega), if_pos (show (i : Int) < (s.size : Int) by omega), if_pos (show 0 ≤ (j : Int) by omega), if_pos (show (j : Int) < (s.size : Int) by omega), show wrap64 ((j : Int) + 1) = ((j + 1 : Nat) : Int) from by rw [w64 (by omega) (by omega)]; omega]
      unfold hit
      constructor
      · rintro ⟨h1, h2, h3⟩
        rw [if_pos h1, if_pos (by omega), if_pos h3]
      · intro h
        by_cases h1 : bt s (i : Int) = bt s (j : Int)
        · rw [if_pos h1]
          by_cases h2 : bt s (i : Int) ≥ 97
          · rw [if_pos h2, if_neg (fun q => h ⟨h1, by omega, q⟩)]
          · rw [if_neg h2]
        · rw [if_neg h1]
    by_cases hh : hit s i j
    · exact ⟨fun _ => step.1 hh, fun q => absurd ⟨j, by omega, by omega, hh⟩ q⟩
    · rw [step.2 hh]
      constructor
      · rintro ⟨b, h1, h2, h3⟩
        have : b ≠ j := by rintro rfl; exact hh h3
        exact ih1 ⟨b, by omega, h2, h3⟩
      · intro q
        obtain ⟨k', h1, h2⟩ := ih2 (fun ⟨b, h1, h2, h3⟩ => q ⟨b, by omega, h2, h3⟩)
        exact ⟨k', by omega, h2⟩

theorem once_outer (s : ByteArray) (hs : s.size ≤ 1048576) : ∀ (d i k : Nat), i + d = s.size → d * (s.size + 2) + 201 ≤ k →
    ((∃ a b, i ≤ a ∧ a < s.size ∧ b < a ∧ hit s a b) → spec_IsReadOnce.l0 k s (i : Int) = some false) ∧
    ((¬ ∃ a b, i ≤ a ∧ a < s.size ∧ b < a ∧ hit s a b) → spec_IsReadOnce.l0 k s (i : Int) = some (isF s)) := by
  intro d
  induction d with
  | zero =>
    intro i k hi hk
    obtain ⟨k, rfl⟩ : ∃ q, k = q + 1 := ⟨k - 1, by omega⟩
    refine ⟨fun ⟨a, b, h1, h2, _⟩ => by omega, fun _ => ?_⟩
    simp only [spec_IsReadOnce.l0]
    rw [if_neg (show ¬ (i : Int) < (s.size : Int) by omega), spec_is s (by omega)]
    rfl
  | succ d ih =>
    intro i k hi hk
    rw [Nat.succ_mul] at hk
    obtain ⟨X, hX⟩ : ∃ X, X = d * (s.size + 2) := ⟨_, rfl⟩
    rw [← hX] at hk ih
    obtain ⟨k, rfl⟩ : ∃ q, k = q + 1 := ⟨k - 1, by omega⟩
    obtain ⟨i1, i2⟩ := once_inner s hs i (by omega) i 0 k (by omega) (by omega)
    have e0 : spec_IsReadOnce.l0 (k + 1) s (i : Int) = spec_IsReadOnce.l1 k s (i : Int) ((0 : Nat) : Int) := by
      simp only [spec_IsReadOnce.l0]
      rw [if_pos (show (i : Int) < (s.size : Int) by omega)]
      rfl
    rw [e0]
    by_cases hh : ∃ b, 0 ≤ b ∧ b < i ∧ hit s i b
    · rw [i1 hh]
      obtain ⟨b, h0, h1, h2⟩ := hh
      exact ⟨fun _ => rfl, fun q => absurd ⟨i, b, by omega, by omega, h1, h2⟩ q⟩
    · obtain ⟨k', h1, h2⟩ := i2 hh
      rw [h2]
      obtain ⟨j1, j2⟩ := ih (i + 1) k' (by omega) (by omega)
      constructor
      · rintro ⟨a, b, g1, g2, g3, g4⟩
        have : a ≠ i := by
          rintro rfl
          exact hh ⟨b, by omega, g3, g4⟩
        exact j1 ⟨a, b, by omega, g2, g3, g4⟩
      · intro q
        exact j2 (fun ⟨a, b, g1, g2, g3, g4⟩ => q ⟨a, b, by omega, g2, g3, g4⟩)

theorem count_letter (s : ByteArray) (i : Nat) (hi : i < 5) : strings_Count.f s (strOfNums [(97 + (i : Int)) % 256]) = some ((cnt s (97 + (i : Int)) s.size : Nat) : Int) := by
  unfold strings_Count.f oneByte
  rw [strOfNums_data]
  have e : (97 + (i : Int)) % 256 = ((97 + i : Nat) : Int) := by omega
  rw [e]
  simp only [List.map_cons, List.map_nil, Int.toNat_natCast, Option.bind_some]
  rw [count_is s (97 + i) (by omega)]
  congr 3

theorem impl_once_yes (s : ByteArray) : ∀ (d i k : Nat), i + d = 5 → d < k → (∃ a b, a < s.size ∧ b < a ∧ hit s a b ∧ 97 + (i : Int) ≤ bt s (a : Int)) → impl_IsReadOnce.l0 k s (i : Int) = some false := by
  intro d
  induction d with
  | zero =>
    rintro i k hi hk ⟨a, b, h1, h2, h3, h4⟩
    unfold hit at h3
    omega
  | succ d ih =>
    rintro i k hi hk ⟨a, b, h1, h2, h3, h4⟩
    obtain ⟨k, rfl⟩ : ∃ q, k = q + 1 := ⟨k - 1, by omega⟩
    simp only [impl_IsReadOnce.l0]
    rw [if_pos (by omega), count_letter s i (by omega)]
    simp only [Option.bind_some]
    have ht := cnt_two s (97 + (i : Int)) s.size
    by_cases hc : 2 ≤ cnt s (97 + (i : Int)) s.size
    · rw [if_pos (by omega)]
    · rw [if_neg (by omega), show ((i : Int) + 1) % 256 = ((i + 1 : Nat) : Int) from by omega]
      refine ih (i + 1) k (by omega) (by omega) ⟨a, b, h1, h2, h3, ?_⟩
      unfold hit at h3
      have : bt s (a : Int) ≠ 97 + (i : Int) := fun q => hc (ht.mpr ⟨a, b, h1, h2, q, by rw [← h3.1]; exact q⟩)
      omega

theorem impl_once_no (s : ByteArray) (hno : ¬ ∃ a b, a < s.size ∧ b < a ∧ hit s a b) : ∀ (d i k : Nat), i + d = 5 → d < k → impl_IsReadOnce.l0 k s (i : Int) = some (isF s) := by
  intro d
  induction d with
  | zero =>
    intro i k hi hk
    obtain ⟨k, rfl⟩ : ∃ q, k = q + 1 := ⟨k - 1, by omega⟩
    simp only [impl_IsReadOnce.l0]
    rw [if_neg (by omega), impl_is]
    rfl
  | succ d ih =>
    intro i k hi hk
    obtain ⟨k, rfl⟩ : ∃ q, k = q + 1 := ⟨k - 1, by omega⟩
    simp only [impl_IsReadOnce.l0]
    rw [if_pos (by omega), count_letter s i (by omega)]
    simp only [Option.bind_some]
    have ht := cnt_two s (97 + (i : Int)) s.size
    by_cases hc : 2 ≤ cnt s (97 + (i : Int)) s.size
    · obtain ⟨a, b, h1, h2, h3, h4⟩ := ht.mp hc
      exact absurd ⟨a, b, h1, h2, by rw [h3, h4], by omega, by omega⟩ hno
    · rw [if_neg (by omega), show ((i : Int) + 1) % 256 = ((i + 1 : Nat) : Int) from by omega]
      exact ih (i + 1) k (by omega) (by omega)

theorem FnExactIsReadOnce : laws_FnExactIsReadOnce.Pure := by
  intro s _
  obtain ⟨K, hK⟩ : ∃ K, K = s.size * (s.size + 2) + 201 := ⟨_, rfl⟩
  refine ⟨K, ?_⟩
  unfold laws_FnExactIsReadOnce.f
  by_cases hs : (s.size : Int) > 1048576
  · rw [if_pos hs]
  · rw [if_neg hs]
    obtain ⟨o1, o2⟩ := once_outer s (by omega) s.size 0 K (by omega) (by omega)
    unfold spec_IsReadOnce.f impl_IsReadOnce.f
    by_cases hh : ∃ a b, a < s.size ∧ b < a ∧ hit s a b
    · obtain ⟨a, b, h1, h2, h3⟩ := hh
      rw [show spec_IsReadOnce.l0 K s 0 = some false from o1 ⟨a, b, by omega, h1, h2, h3⟩, show impl_IsReadOnce.l0 K s 0 = some false from impl_once_yes s 5 0 K (by omega) (by omega) ⟨a, b, h1, h2, h3, by unfold hit at h3; omega⟩]
      simp
    · rw [show spec_IsReadOnce.l0 K s 0 = some (isF s) from o2 (fun ⟨a, b, _, h1, h2, h3⟩ => hh ⟨a, b, h1, h2, h3⟩), show impl_IsReadOnce.l0 K s 0 = some (isF s) from impl_once_no s hh 5 0 K (by omega) (by omega)]
      simp

end Go.Proofs.Ytgkmgiojbiikgaa.Pure
