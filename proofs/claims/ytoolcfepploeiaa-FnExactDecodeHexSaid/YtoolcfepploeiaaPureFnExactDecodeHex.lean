/- The law FnExactDecodeHex: its plain function answers true for all its arguments. No conditions but those of the statement. -/
import Derived.Test.YtoolcfepploeiaaBits
import Derived.Laws.BitsAllLaws
import Derived.Test.YtoolcfepploeiaaPLFnExactDecodeHex
import Derived.Test.YtoolcfepploeiaaPLFnExactDecodeHex
import Derived.Test.YtoolcfepploeiaaPLFnExactDecodeHex
namespace Go.Proofs.Ytoolcfepploeiaa.Pure
set_option linter.unusedVariables false
set_option linter.unusedSimpArgs false
open Go Go.RowKit Go.Proofs.Ytoolcfepploeiaa.P Go.Proofs.Ytoolcfepploeiaa.Bits Go.Proofs.YtoolcfepploeiaaW.PrintWords Go.Proofs.YtoolcfepploeiaaW.PrintLast Go.Proofs.YtoolcfepploeiaaW.PrintMore

def both (b : Int) : Bool := match spec_l1FromHex.f 20 b, impl_hexValue.f 20 b with
  | some a, some (v, ok) => (ok && decide (a = v ∧ 0 ≤ v ∧ v < 16)) || (!ok && decide (a < 0))
  | _, _ => false
theorem both_all : ∀ b : Fin 256, both (b.val : Int) = true := by decide +kernel

theorem hexval {b : Int} (h0 : 0 ≤ b) (h1 : b ≤ 255) : ∃ (a v : Int) (ok : Bool), (∀ k, 20 ≤ k → spec_l1FromHex.f k b = some a) ∧ (∀ k, 20 ≤ k → impl_hexValue.f k b = some (v, ok)) ∧ ((ok = true ∧ a = v ∧ 0 ≤ v ∧ v < 16) ∨ (ok = false ∧ a < 0)) := by
  have q := both_all ⟨b.toNat, by omega⟩
  rw [show (((⟨b.toNat, by omega⟩ : Fin 256).val : Nat) : Int) = b from by simp; omega] at q
  unfold both at q
  cases hs : spec_l1FromHex.f 20 b with
  | none => rw [hs] at q; cases q
  | some a =>
    cases hi : impl_hexValue.f 20 b with
    | none => rw [hs, hi] at q; cases q
    | some p =>
      obtain ⟨v, ok⟩ := p
      rw [hs, hi] at q
      refine ⟨a, v, ok, fun k hk => at_rounds (fun k => spec_l1FromHex.mono b k) hk hs, fun k hk => at_rounds (fun k => impl_hexValue.mono b k) hk hi, ?_⟩
      cases ok
      · right; simpa using q
      · left; simpa using q

theorem hex_same (s : ByteArray) (hs : s.size ≤ 1048576) : ∀ (d i k : Nat) (xs : List Int), i + 2 * d = s.size → 20 + d < k → xs.length ≤ i →
    ∃ r, spec_DecodeHex.l0 k s xs (i : Int) = some r ∧ impl_DecodeHex.l0 k s xs (i : Int) = some r := by
  intro d
  induction d with
  | zero =>
    intro i k xs hi hk _
    obtain ⟨k, rfl⟩ : ∃ q, k = q + 1 := ⟨k - 1, by omega⟩
    refine ⟨(strOfNums xs, true), ?_, ?_⟩
    · simp only [spec_DecodeHex.l0]; rw [if_neg (by omega)]
    · simp only [impl_DecodeHex.l0]; rw [if_neg (by omega)]
  | succ d ih =>
    intro i k xs hi hk hx
    obtain ⟨k, rfl⟩ : ∃ q, k = q + 1 := ⟨k - 1, by omega⟩
    have hb := bt_range s (i : Int)
    have hc := bt_range s ((i : Int) + 1)
    obtain ⟨a, v, ok, ha, hv, hr⟩ := hexval hb.1 hb.2
    obtain ⟨a2, v2, ok2, ha2, hv2, hr2⟩ := hexval hc.1 hc.2
    simp only [spec_DecodeHex.l0, impl_DecodeHex.l0]
    rw [if_pos (by omega), if_pos (by omega), if_pos (by omega), if_pos (by omega), w64 (x := (i : Int) + 1) (by omega) (by omega)]
    rw [ha k (by omega), hv k (by omega)]
    simp only [Option.bind_some]
    rw [if_pos (by omega), if_pos (by omega), if_pos (by omega), if_pos (by omega), ha2 k (by omega), hv2 k (by omega)]
    simp only [Option.bind_some]
    rcases hr with ⟨rfl, rfl, h0, h16⟩ | ⟨rfl, hn⟩
    · rcases hr2 with ⟨rfl, rfl, g0, g16⟩ | ⟨rfl, gn⟩
      · rw [if_neg (by omega), if_neg (by omega)]
        simp only [if_true]
        have hl : xs.length < 140737488355328 := by omega
        rw [if_pos hl, if_pos hl, w64 (x := 16 * a) (by omega) (by omega), w64 (x := 16 * a + a2) (by omega) (by omega), w64 (x := (i : Int) + 2) (by omega) (by omega)]
        obtain ⟨r, h1, h2⟩ := ih (i + 2) k (xs ++ [(16 * a + a2) % 256]) (by omega) (by omega) (by simp; omega)
        push_cast at h1 h2
        exact ⟨r, h1, h2⟩
      · rw [if_neg (by omega), if_pos gn]
        exact ⟨_, rfl, by simp⟩
    · rw [if_pos hn]
      exact ⟨_, rfl, by simp⟩

theorem FnExactDecodeHex : laws_FnExactDecodeHex.Pure := by
  intro s _
  refine ⟨s.size + 22, ?_⟩
  unfold laws_FnExactDecodeHex.f
  by_cases hs : (s.size : Int) > 1048576
  · rw [if_pos hs]
  · rw [if_neg hs]
    unfold spec_DecodeHex.f impl_DecodeHex.f
    by_cases ho : ((s.size : Int) % 2) = 1
    · rw [if_pos ho, if_neg (by omega)]
      simp
    · rw [if_neg ho, if_pos (by omega), w64 (by omega) (by omega), if_pos (by omega), if_pos (by omega)]
      obtain ⟨r, h1, h2⟩ := hex_same s (by omega) (s.size / 2) 0 (s.size + 22) [] (by omega) (by omega) (by simp)
      rw [show ((0 : Nat) : Int) = 0 from rfl] at h1 h2
      rw [h1]
      simp only [Option.bind_some]
      rw [h2]
      simp

end Go.Proofs.Ytoolcfepploeiaa.Pure
