/- The law FnExactFormatTable: its plain function answers true for all its arguments. No conditions but those of the statement. -/
import Derived.Test.YtoolcfepploeiaaTab
import Derived.Test.YtoolcfepploeiaaPLFnExactFormatTable
import Derived.Test.YtoolcfepploeiaaPLFnExactFormatTable
import Derived.Test.YtoolcfepploeiaaPLFnExactFormatTable
import Derived.Test.YtoolcfepploeiaaPLFnExactFormatTable
import Derived.Test.YtoolcfepploeiaaPLFnExactFormatTable
namespace Go.Proofs.Ytoolcfepploeiaa.Pure
set_option linter.unusedVariables false
set_option linter.unusedSimpArgs false
open Go Go.RowKit Go.Proofs.Ytoolcfepploeiaa.P Go.Proofs.Ytoolcfepploeiaa.Bits Go.Proofs.Ytoolcfepploeiaa.Tab Go.Proofs.YtoolcfepploeiaaW.PrintWords Go.Proofs.YtoolcfepploeiaaW.PrintLast Go.Proofs.YtoolcfepploeiaaW.PrintMore

def ch (w : Int) (i : Nat) : Int := if w.toNat.testBit i then 49 else 48

theorem fmt_impl {n w : Int} (w0 : 0 ≤ w) (w1 : w ≤ 4294967296) (m : Nat) (hm : m ≤ 32) : ∀ (d i k : Nat), i + d = m → d < k →
    impl_FormatTable.l0 k ((List.range i).map (ch w) ++ List.replicate (m - i) 0) (m : Int) (i : Int) n w = some (strOfNums ((List.range m).map (ch w))) := by
  intro d
  induction d with
  | zero =>
    intro i k hi hk
    obtain ⟨k, rfl⟩ : ∃ q, k = q + 1 := ⟨k - 1, by omega⟩
    obtain rfl : i = m := by omega
    simp only [impl_FormatTable.l0]
    rw [if_neg (by omega)]
    simp
  | succ d ih =>
    intro i k hi hk
    obtain ⟨k, rfl⟩ : ∃ q, k = q + 1 := ⟨k - 1, by omega⟩
    simp only [impl_FormatTable.l0]
    rw [if_pos (by omega), at_is w0 (by omega) (by omega) (by omega)]
    simp only [Option.bind_some]
    rw [if_pos (by omega), if_pos (by simp; omega), w64 (by omega) (by omega)]
    have e : ((48 + ((w.toNat.testBit (i : Int).toNat).toNat : Int) % 256) % 256) = ch w i := by
      unfold ch
      rw [Int.toNat_natCast]
      cases w.toNat.testBit i <;> rfl
    rw [e, Int.toNat_natCast, fill_step (show i < m by omega)]
    have := ih (i + 1) k (by omega) (by omega)
    push_cast at this
    exact this

theorem fmt_spec {n w : Int} (h : isT n w = true) (m : Nat) (hm : (m : Int) = two n) : ∀ (d i k : Nat), i + d = m → 2 * d + 1 < k →
    spec_FormatTable.l0 k (strOfNums ((List.range i).map (ch w))) (i : Int) n w = some (strOfNums ((List.range m).map (ch w))) := by
  obtain ⟨h0, h5, w0, hl⟩ := isT_yes h
  have h2 := two_le n
  have h3 := lim_le n
  intro d
  induction d with
  | zero =>
    intro i k hi hk
    obtain ⟨k, rfl⟩ : ∃ q, k = q + 1 + 1 := ⟨k - 2, by omega⟩
    obtain rfl : i = m := by omega
    simp only [spec_FormatTable.l0, spec_IsTable_is, Option.bind_some, h, if_true]
    rw [if_pos h0, shl_two h0 h5, ← hm]
    simp [spec_FormatTable.j1]
  | succ d ih =>
    intro i k hi hk
    obtain ⟨k, rfl⟩ : ∃ q, k = q + 1 + 1 := ⟨k - 2, by omega⟩
    simp only [spec_FormatTable.l0, spec_IsTable_is, Option.bind_some, h, if_true]
    rw [if_pos h0, shl_two h0 h5, ← hm]
    have hlt : decide ((i : Int) < (m : Int)) = true := decide_eq_true (by omega)
    rw [hlt]
    simp only [spec_FormatTable.j1, if_true]
    rw [if_pos (by omega), shr_is (by omega), bit_is w0 (by omega) (by omega) (by omega), strOfNums_size]
    have hz : ((List.range i).map (ch w)).length + 1 ≤ 9223372036854775807 := by simp; omega
    rw [if_pos hz, if_pos hz, w64 (by omega) (by omega)]
    have ih' := ih (i + 1) k (by omega) (by omega)
    push_cast at ih'
    rw [List.range_succ, List.map_append, strOfNums_append] at ih'
    rw [Int.toNat_natCast]
    have e : strOfNums (List.map (ch w) [i]) = if w.toNat.testBit i then (⟨#[49]⟩ : ByteArray) else (⟨#[48]⟩ : ByteArray) := by
      simp only [List.map_cons, List.map_nil, ch]
      cases w.toNat.testBit i <;> rfl
    rw [e] at ih'
    cases hb : w.toNat.testBit i
    · rw [hb] at ih'
      simpa using ih'
    · rw [hb] at ih'
      simpa using ih'

theorem fmt_tells {n w : Int} : ∃ r, (∀ k, 66 < k → spec_FormatTable.f k n w = some r) ∧ ∀ k, 66 < k → impl_FormatTable.f k n w = some r := by
  cases h : isT n w
  · refine ⟨⟨#[]⟩, fun k hk => ?_, fun k hk => ?_⟩
    · obtain ⟨k, rfl⟩ : ∃ q, k = q + 1 + 1 := ⟨k - 2, by omega⟩
      unfold spec_FormatTable.f
      simp [spec_FormatTable.l0, spec_FormatTable.j1, spec_IsTable_is, h]
    · unfold impl_FormatTable.f
      simp [impl_IsTable_is, h]
  · obtain ⟨h0, h5, w0, hl⟩ := isT_yes h
    have h2 := two_le n
    have h3 := lim_le n
    obtain ⟨m, hm⟩ : ∃ m : Nat, two n = m := ⟨(two n).toNat, by omega⟩
    refine ⟨strOfNums ((List.range m).map (ch w)), fun k hk => ?_, fun k hk => ?_⟩
    · unfold spec_FormatTable.f
      have := fmt_spec h m hm.symm m 0 k (by omega) (by omega)
      simpa [strOfNums] using this
    · unfold impl_FormatTable.f
      rw [impl_IsTable_is, h]
      simp only [Option.bind_some, if_true]
      rw [size_is h0 h5, hm]
      simp only [Option.bind_some, Int.toNat_natCast, List.length_replicate]
      rw [if_pos (by omega), if_pos (by omega)]
      have := fmt_impl (n := n) w0 (by omega) m (by omega) m 0 k (by omega) (by omega)
      simpa using this

theorem FnExactFormatTable : laws_FnExactFormatTable.Pure := by
  intro n w _ _
  obtain ⟨r, h1, h2⟩ := @fmt_tells n w
  refine ⟨67, ?_⟩
  unfold laws_FnExactFormatTable.f laws_toTable.f
  simp only [Option.bind_some]
  rw [h1 67 (by omega)]
  simp only [Option.bind_some]
  rw [h2 67 (by omega)]
  simp

end Go.Proofs.Ytoolcfepploeiaa.Pure
