/- The law FnExactEncodeHex: its plain function answers true for all its arguments. No conditions but those of the statement. -/
import Derived.Test.YtoolcfepploeiaaBits
import Derived.Laws.BitsAllLaws
import Derived.Test.YtoolcfepploeiaaPLFnExactEncodeHex
import Derived.Test.YtoolcfepploeiaaPLFnExactEncodeHex
import Derived.Test.YtoolcfepploeiaaPLFnExactEncodeHex
import Derived.Test.YtoolcfepploeiaaPLFnExactEncodeHex
namespace Go.Proofs.Ytoolcfepploeiaa.Pure
set_option linter.unusedVariables false
set_option linter.unusedSimpArgs false
open Go Go.RowKit Go.Proofs.Ytoolcfepploeiaa.P Go.Proofs.Ytoolcfepploeiaa.Bits Go.Proofs.YtoolcfepploeiaaW.PrintWords Go.Proofs.YtoolcfepploeiaaW.PrintLast Go.Proofs.YtoolcfepploeiaaW.PrintMore

def hx (d : Int) : Int := if d < 10 then 48 + d else 87 + d

theorem hx_spec {d : Int} (h0 : 0 ≤ d) (h1 : d < 16) : spec_l1Digit.f d = some (hx d) := by
  have h : d = 0 ∨ d = 1 ∨ d = 2 ∨ d = 3 ∨ d = 4 ∨ d = 5 ∨ d = 6 ∨ d = 7 ∨ d = 8 ∨ d = 9 ∨ d = 10 ∨ d = 11 ∨ d = 12 ∨ d = 13 ∨ d = 14 ∨ d = 15 := by omega
  rcases h with rfl | rfl | rfl | rfl | rfl | rfl | rfl | rfl | rfl | rfl | rfl | rfl | rfl | rfl | rfl | rfl <;> decide +kernel
theorem hx_impl {d : Int} (h0 : 0 ≤ d) (h1 : d < 16) : impl_hexDigit.f d = some (hx d) := by
  have h : d = 0 ∨ d = 1 ∨ d = 2 ∨ d = 3 ∨ d = 4 ∨ d = 5 ∨ d = 6 ∨ d = 7 ∨ d = 8 ∨ d = 9 ∨ d = 10 ∨ d = 11 ∨ d = 12 ∨ d = 13 ∨ d = 14 ∨ d = 15 := by omega
  rcases h with rfl | rfl | rfl | rfl | rfl | rfl | rfl | rfl | rfl | rfl | rfl | rfl | rfl | rfl | rfl | rfl <;> decide +kernel

theorem hex_same (s : ByteArray) (hs : s.size ≤ 1048576) : ∀ (d i k : Nat) (xs : List Int), i + d = s.size → d < k → xs.length = 2 * i →
    ∃ r, spec_EncodeHex.l0 k s xs (i : Int) = some r ∧ impl_EncodeHex.l0 k s xs (s.size : Int) (i : Int) = some r := by
  intro d
  induction d with
  | zero =>
    intro i k xs hi hk _
    obtain ⟨k, rfl⟩ : ∃ q, k = q + 1 := ⟨k - 1, by omega⟩
    refine ⟨strOfNums xs, ?_, ?_⟩
    · simp only [spec_EncodeHex.l0]; rw [if_neg (by omega)]
    · simp only [impl_EncodeHex.l0]; rw [if_neg (by omega)]
  | succ d ih =>
    intro i k xs hi hk hlen
    obtain ⟨k, rfl⟩ : ∃ q, k = q + 1 := ⟨k - 1, by omega⟩
    have hb := bt_range s (i : Int)
    obtain ⟨b, hb'⟩ : ∃ b, bt s (i : Int) = b := ⟨_, rfl⟩
    rw [hb'] at hb
    obtain ⟨r, h1, h2⟩ := ih (i + 1) k (xs ++ [hx (b / 16), hx (b % 16)]) (by omega) (by omega) (by simp; omega)
    push_cast at h1 h2
    have hl : xs.length + [hx (b / 16), hx (b % 16)].length < 140737488355328 := by simp; omega
    refine ⟨r, ?_, ?_⟩
    · simp only [spec_EncodeHex.l0]
      rw [if_pos (by omega), if_pos (by omega), hb', w64 (x := b) (by omega) (by omega), Int.tdiv_eq_ediv_of_nonneg hb.1, w64 (x := b / 16) (by omega) (by omega), hx_spec (by omega) (by omega)]
      simp only [Option.bind_some]
      rw [Int.tmod_eq_emod_of_nonneg hb.1, hx_spec (by omega) (by omega)]
      simp only [Option.bind_some]
      rw [if_pos hl, w64 (by omega) (by omega)]
      exact h1
    · simp only [impl_EncodeHex.l0]
      rw [if_pos (by omega), if_pos (by omega), if_pos (by omega), hb', Int.tdiv_eq_ediv_of_nonneg hb.1, Int.tmod_eq_emod_of_nonneg hb.1]
      rw [show (b / 16) % 256 = b / 16 by omega, hx_impl (by omega) (by omega)]
      simp only [Option.bind_some]
      rw [hx_impl (by omega) (by omega)]
      simp only [Option.bind_some]
      rw [if_pos hl, w64 (by omega) (by omega)]
      exact h2

theorem FnExactEncodeHex : laws_FnExactEncodeHex.Pure := by
  intro s _
  refine ⟨s.size + 1, ?_⟩
  unfold laws_FnExactEncodeHex.f
  by_cases hs : (s.size : Int) > 1048576
  · rw [if_pos hs]
  · rw [if_neg hs]
    obtain ⟨r, h1, h2⟩ := hex_same s (by omega) s.size 0 (s.size + 1) [] (by omega) (by omega) rfl
    unfold spec_EncodeHex.f impl_EncodeHex.f
    rw [w64 (by omega) (by omega), if_pos (by omega), if_pos (by omega)]
    rw [show ((0 : Nat) : Int) = 0 from rfl] at h1 h2
    rw [h1]
    simp only [Option.bind_some]
    rw [h2]
    simp

end Go.Proofs.Ytoolcfepploeiaa.Pure
