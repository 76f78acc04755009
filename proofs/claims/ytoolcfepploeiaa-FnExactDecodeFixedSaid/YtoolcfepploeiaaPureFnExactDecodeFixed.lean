/- The law FnExactDecodeFixed: its plain function answers true for all its arguments. No conditions but those of the statement. -/
import Derived.Test.YtoolcfepploeiaaBits
import Derived.Laws.BitsAllLaws
import Derived.Test.YtoolcfepploeiaaPLFnExactDecodeFixed
import Derived.Test.YtoolcfepploeiaaG1
import Derived.Test.YtoolcfepploeiaaPLFnExactDecodeFixed
import Derived.Test.YtoolcfepploeiaaPLFnExactDecodeFixed
namespace Go.Proofs.Ytoolcfepploeiaa.Pure
set_option linter.unusedVariables false
set_option linter.unusedSimpArgs false
open Go Go.RowKit Go.Proofs.Ytoolcfepploeiaa.P Go.Proofs.Ytoolcfepploeiaa.Bits Go.Proofs.YtoolcfepploeiaaW.PrintWords Go.Proofs.YtoolcfepploeiaaW.PrintLast Go.Proofs.YtoolcfepploeiaaW.PrintMore

theorem or_byte {x b : Int} (x0 : 0 ≤ x) (x1 : x ≤ 281474976710656) (b0 : 0 ≤ b) (b1 : b ≤ 255) : bits .or .i64 (x * 256) b = x * 256 + b := by
  rw [or_int (by omega) (by omega) b0 (by omega), nat_join 8 _ _ (by omega) (by omega)]
  omega

theorem fixed_same (s : ByteArray) (m : Nat) (hm : m ≤ 7) (hs : m ≤ s.size) : ∀ (d i k : Nat) (n : Int), i + d = m → d < k → 0 ≤ n → n < 256 ^ i →
    ∃ r, spec_DecodeFixed.l0 k s (m : Int) n (i : Int) = some r ∧ impl_DecodeFixed.l0 k s n (m : Int) (i : Int) = some r := by
  intro d
  induction d with
  | zero =>
    intro i k n hi hk _ _
    obtain ⟨k, rfl⟩ : ∃ q, k = q + 1 := ⟨k - 1, by omega⟩
    refine ⟨(n, true), ?_, ?_⟩
    · simp only [spec_DecodeFixed.l0]; rw [if_neg (by omega)]
    · simp only [impl_DecodeFixed.l0]; rw [if_neg (by omega)]
  | succ d ih =>
    intro i k n hi hk hn0 hn1
    obtain ⟨k, rfl⟩ : ∃ q, k = q + 1 := ⟨k - 1, by omega⟩
    have hb := bt_range s (i : Int)
    have hp : (256 : Int) ^ i ≤ 281474976710656 := by
      have h6 : (256 : Nat) ^ 6 = 281474976710656 := by decide +kernel
      have h7 : (256 : Nat) ^ i ≤ 256 ^ 6 := Nat.pow_le_pow_right (by decide) (by omega)
      rw [h6] at h7
      have e : ((256 ^ i : Nat) : Int) = (256 : Int) ^ i := by rw [Int.natCast_pow]; rfl
      omega
    have hps : (256 : Int) ^ (i + 1) = 256 ^ i * 256 := Int.pow_succ _ _
    obtain ⟨r, h1, h2⟩ := ih (i + 1) k (n * 256 + bt s (i : Int)) (by omega) (by omega) (by omega) (by rw [hps]; omega)
    push_cast at h1 h2
    refine ⟨r, ?_, ?_⟩
    · simp only [spec_DecodeFixed.l0]
      rw [if_pos (by omega), if_pos (by omega), if_pos (by omega), w64 (x := n * 256) (by omega) (by omega), w64 (x := bt s (i : Int)) (by omega) (by omega), w64 (by omega) (by omega), w64 (x := (i : Int) + 1) (by omega) (by omega)]
      exact h1
    · simp only [impl_DecodeFixed.l0]
      rw [if_pos (by omega), if_pos (by omega), if_pos (by omega), w64 (x := n * 256) (by omega) (by omega), w64 (x := bt s (i : Int)) (by omega) (by omega), or_byte hn0 (by omega) hb.1 hb.2, w64 (x := (i : Int) + 1) (by omega) (by omega)]
      exact h2

theorem FnExactDecodeFixed : laws_FnExactDecodeFixed.Pure := by
  intro s w _ _
  refine ⟨10, ?_⟩
  unfold laws_FnExactDecodeFixed.f
  by_cases hs : (s.size : Int) > 1048576
  · rw [if_pos hs]
  · rw [if_neg hs]
    unfold spec_DecodeFixed.f impl_DecodeFixed.f
    rw [l1In_is]
    simp only [Option.bind_some, decide_eq_true_eq]
    by_cases h1 : 1 ≤ w
    · by_cases h7 : w ≤ 7
      · rw [if_pos ⟨h1, h7⟩, if_neg (by omega), if_neg (by omega)]
        simp only [spec_DecodeFixed.j0, impl_DecodeFixed.j0, decide_eq_true_eq]
        by_cases hl : (s.size : Int) < w
        · simp [hl]
        · rw [if_neg hl, if_neg hl]
          obtain ⟨m, rfl⟩ := Int.eq_ofNat_of_zero_le (show 0 ≤ w by omega)
          obtain ⟨r, h1, h2⟩ := fixed_same s m (by omega) (by omega) m 0 9 0 (by omega) (by omega) (by omega) (by simp)
          rw [show ((0 : Nat) : Int) = 0 from rfl] at h1 h2
          rw [h1]
          simp only [Option.bind_some]
          rw [h2]
          simp
      · rw [if_neg (by omega), if_neg (by omega), if_pos (by omega)]
        simp [spec_DecodeFixed.j0, impl_DecodeFixed.j0]
    · rw [if_neg (by omega), if_pos (by omega)]
      simp [spec_DecodeFixed.j0, impl_DecodeFixed.j0]

end Go.Proofs.Ytoolcfepploeiaa.Pure
