/- The law FnExactEncodeVarint: its plain function answers true for all its arguments. No conditions but those of the statement. -/
import Derived.Test.YtoolcfepploeiaaBits
import Derived.Laws.BitsAllLaws
import Derived.Test.YtoolcfepploeiaaPLFnExactEncodeVarint
import Derived.Test.YtoolcfepploeiaaG1
import Derived.Test.YtoolcfepploeiaaPLFnExactEncodeVarint
import Derived.Test.YtoolcfepploeiaaPLFnExactEncodeVarint
namespace Go.Proofs.Ytoolcfepploeiaa.Pure
set_option linter.unusedVariables false
set_option linter.unusedSimpArgs false
open Go Go.RowKit Go.Proofs.Ytoolcfepploeiaa.P Go.Proofs.Ytoolcfepploeiaa.Bits Go.Proofs.YtoolcfepploeiaaW.PrintWords Go.Proofs.YtoolcfepploeiaaW.PrintLast Go.Proofs.YtoolcfepploeiaaW.PrintMore

theorem or128_all : ∀ b : Fin 256, bits .or .u8 (b.val : Int) 128 = 128 + (b.val : Int) % 128 := by decide +kernel
theorem or128 {n : Int} (h0 : 0 ≤ n) : bits .or .u8 (n % 256) 128 = 128 + n % 128 := by
  have q := or128_all ⟨(n % 256).toNat, by omega⟩
  rw [show (((⟨(n % 256).toNat, by omega⟩ : Fin 256).val : Nat) : Int) = n % 256 from by simp; omega] at q
  rw [q]
  omega

theorem varint_same : ∀ (d k : Nat) (n : Int) (xs : List Int), 0 ≤ n → n < 128 ^ (d + 1) → n ≤ 562949953421311 → d < k → xs.length + d ≤ 100 →
    ∃ r, spec_EncodeVarint.l0 k n xs = some r ∧ impl_EncodeVarint.l0 k n xs = some r := by
  intro d
  induction d with
  | zero =>
    intro k n xs h0 h1 _ hk hl
    obtain ⟨k, rfl⟩ : ∃ q, k = q + 1 := ⟨k - 1, by omega⟩
    have h1' : n < 128 := by simpa using h1
    have hx : xs.length < 140737488355328 := by omega
    refine ⟨strOfNums (xs ++ [n % 256]), ?_, ?_⟩
    · simp only [spec_EncodeVarint.l0]; rw [if_neg (by omega), if_pos hx]
    · simp only [impl_EncodeVarint.l0]; rw [if_neg (by omega), if_pos hx]
  | succ d ih =>
    intro k n xs h0 h1 hb hk hl
    obtain ⟨k, rfl⟩ : ∃ q, k = q + 1 := ⟨k - 1, by omega⟩
    have hx : xs.length < 140737488355328 := by omega
    simp only [spec_EncodeVarint.l0, impl_EncodeVarint.l0]
    by_cases hn : n ≥ 128
    · have hp : (128 : Int) ^ (d + 1 + 1) = 128 ^ (d + 1) * 128 := Int.pow_succ _ _
      rw [hp] at h1
      rw [if_pos hn, if_pos hx, if_pos (show n > 127 by omega), if_pos hx, Int.tdiv_eq_ediv_of_nonneg h0, Int.tmod_eq_emod_of_nonneg h0, or128 h0]
      rw [w64 (x := n / 128) (by omega) (by omega), w64 (x := 128 + n % 128) (by omega) (by omega), show (128 + n % 128) % 256 = 128 + n % 128 by omega]
      exact ih k (n / 128) (xs ++ [128 + n % 128]) (by omega) (by omega) (by omega) (by omega) (by simp; omega)
    · rw [if_neg hn, if_pos hx, if_neg (show ¬ n > 127 by omega)]
      exact ⟨_, rfl, rfl⟩

theorem FnExactEncodeVarint : laws_FnExactEncodeVarint.Pure := by
  intro n _
  refine ⟨10, ?_⟩
  unfold laws_FnExactEncodeVarint.f spec_EncodeVarint.f impl_EncodeVarint.f
  rw [l1In_is]
  simp only [Option.bind_some, decide_eq_true_eq]
  by_cases h0 : 0 ≤ n
  · by_cases h1 : n ≤ 562949953421311
    · rw [if_pos ⟨h0, h1⟩, if_neg (by omega)]
      have e : decide (n > 562949953421311) = false := decide_eq_false (by omega)
      rw [e]
      simp only [impl_EncodeVarint.j0]
      have p8 : (128 : Int) ^ (7 + 1) = 72057594037927936 := by decide +kernel
      have p : ∃ r, spec_EncodeVarint.l0 10 n [] = some r ∧ impl_EncodeVarint.l0 9 n [] = some r := by
        obtain ⟨r, h1', h2'⟩ := varint_same 7 9 n [] h0 (by omega) h1 (by omega) (by simp)
        exact ⟨r, at_rounds (fun k => (spec_EncodeVarint.mono_l k) n []) (show 9 ≤ 10 by omega) h1', h2'⟩
      obtain ⟨r, h1', h2'⟩ := p
      rw [h1']
      simp only [Option.bind_some, Bool.false_eq_true, if_false]
      rw [h2']
      simp
    · rw [if_neg (by omega), if_neg (by omega)]
      have e : decide (n > 562949953421311) = true := decide_eq_true (by omega)
      rw [e]
      simp [impl_EncodeVarint.j0]
  · rw [if_neg (by omega), if_pos (by omega)]
    simp [impl_EncodeVarint.j0]

end Go.Proofs.Ytoolcfepploeiaa.Pure
