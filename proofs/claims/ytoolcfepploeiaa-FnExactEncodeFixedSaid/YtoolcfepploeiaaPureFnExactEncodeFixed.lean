/- The law FnExactEncodeFixed: its plain function answers true for all its arguments. No conditions but those of the statement. -/
import Derived.Test.YtoolcfepploeiaaBits
import Derived.Laws.BitsAllLaws
import Derived.Test.YtoolcfepploeiaaPLFnExactEncodeFixed
import Derived.Test.YtoolcfepploeiaaG1
import Derived.Test.YtoolcfepploeiaaPLFnExactEncodeFixed
import Derived.Test.YtoolcfepploeiaaPLFnExactEncodeFixed
import Derived.Test.YtoolcfepploeiaaPLFnExactEncodeFixed
namespace Go.Proofs.Ytoolcfepploeiaa.Pure
set_option linter.unusedVariables false
set_option linter.unusedSimpArgs false
open Go Go.RowKit Go.Proofs.Ytoolcfepploeiaa.P Go.Proofs.Ytoolcfepploeiaa.Bits Go.Proofs.YtoolcfepploeiaaW.PrintWords Go.Proofs.YtoolcfepploeiaaW.PrintLast Go.Proofs.YtoolcfepploeiaaW.PrintMore

/-- the m lowest bytes of N, the highest first -/
def bytesTo (N m : Nat) : List Int := (List.range m).map fun j => ((N / 256 ^ (m - 1 - j) % 256 : Nat) : Int)

theorem bytesTo_succ (N i : Nat) : bytesTo N (i + 1) = [((N / 256 ^ i % 256 : Nat) : Int)] ++ bytesTo N i := by
  unfold bytesTo
  rw [List.range_succ_eq_map, List.map_cons, List.map_map]
  simp only [Nat.add_sub_cancel, Nat.sub_zero, List.singleton_append, List.cons.injEq, true_and]
  apply List.map_congr_left
  intro j _
  simp only [Function.comp]
  rw [show i - (j + 1) = i - 1 - j by omega]

theorem fixed_spec (N m : Nat) (hm : m ≤ 7) (hN : N < 9223372036854775808) : ∀ (d i k : Nat), i + d = m → d < k →
    spec_EncodeFixed.l0 k ((N / 256 ^ i : Nat) : Int) (m : Int) (strOfNums (bytesTo N i)) (i : Int) = if N / 256 ^ m > 0 then some (⟨#[]⟩ : ByteArray) else some (strOfNums (bytesTo N m)) := by
  intro d
  induction d with
  | zero =>
    intro i k hi hk
    obtain ⟨k, rfl⟩ : ∃ q, k = q + 1 := ⟨k - 1, by omega⟩
    obtain rfl : i = m := by omega
    simp only [spec_EncodeFixed.l0]
    rw [if_neg (by omega)]
    obtain ⟨Q, hQ⟩ : ∃ Q, N / 256 ^ i = Q := ⟨_, rfl⟩
    rw [hQ]
    by_cases h : Q > 0
    · rw [if_pos h, if_pos (by omega)]
    · rw [if_neg h, if_neg (by omega)]
  | succ d ih =>
    intro i k hi hk
    obtain ⟨k, rfl⟩ : ∃ q, k = q + 1 := ⟨k - 1, by omega⟩
    have hle : N / 256 ^ i ≤ N := Nat.div_le_self _ _
    have ih' := ih (i + 1) k (by omega) (by omega)
    rw [bytesTo_succ, Nat.pow_succ, ← Nat.div_div_eq_div_mul, show ((i + 1 : Nat) : Int) = (i : Int) + 1 from by omega] at ih'
    obtain ⟨Q, hQ⟩ : ∃ Q, N / 256 ^ i = Q := ⟨_, rfl⟩
    rw [hQ] at hle ih' ⊢
    have h0 : (0 : Int) ≤ (Q : Int) := by omega
    have hlen : (bytesTo N i).length = i := by simp [bytesTo]
    simp only [spec_EncodeFixed.l0]
    rw [if_pos (by omega), Int.tdiv_eq_ediv_of_nonneg h0, Int.tmod_eq_emod_of_nonneg h0]
    simp only [Option.bind_some]
    rw [strOfNums_size, strOfNums_size, if_pos (by simp only [List.length_cons, List.length_nil]; omega), w64 (by omega) (by omega), w64 (by omega) (by omega)]
    have e1 : ((Q : Int) / 256) = ((Q / 256 : Nat) : Int) := by omega
    have e2 : ((Q : Int) % 256) % 256 = ((Q % 256 : Nat) : Int) := by omega
    rw [e1, e2, ← strOfNums_append]
    exact ih'

theorem shr_nat (N c : Nat) (hc : c ≤ 64) : shr .i64 (N : Int) (c : Int) = ((N / 2 ^ c : Nat) : Int) := by
  unfold shr
  rw [Nat.min_eq_left (by simp [IntKind.bits]; omega), Int.toNat_natCast]
  push_cast
  rfl

theorem pow8 (m : Nat) : 2 ^ (8 * m) = 256 ^ m := by rw [Nat.pow_mul]

theorem fixed_impl (N m : Nat) (hm : m ≤ 7) (hN : N < 9223372036854775808) : ∀ (d i k : Nat), i + d = m → d < k →
    impl_EncodeFixed.l0 k (N : Int) (m : Int) ((List.range i).map (fun j => ((N / 256 ^ (m - 1 - j) % 256 : Nat) : Int)) ++ List.replicate (m - i) 0) (m : Int) (i : Int) = some (strOfNums (bytesTo N m)) := by
  intro d
  induction d with
  | zero =>
    intro i k hi hk
    obtain ⟨k, rfl⟩ : ∃ q, k = q + 1 := ⟨k - 1, by omega⟩
    obtain rfl : i = m := by omega
    simp only [impl_EncodeFixed.l0]
    rw [if_neg (by omega)]
    simp [bytesTo]
  | succ d ih =>
    intro i k hi hk
    obtain ⟨k, rfl⟩ : ∃ q, k = q + 1 := ⟨k - 1, by omega⟩
    simp only [impl_EncodeFixed.l0]
    have e : wrap64 (8 * wrap64 (wrap64 ((m : Int) - 1) - (i : Int))) = ((8 * (m - 1 - i) : Nat) : Int) := by
      rw [w64 (x := (m : Int) - 1) (by omega) (by omega), w64 (x := (m : Int) - 1 - i) (by omega) (by omega), w64 (by omega) (by omega)]
      omega
    rw [if_pos (by omega), e, if_pos (by omega), if_pos (by omega), if_pos (by simp; omega), shr_nat _ _ (by omega), pow8, w64 (by omega) (by omega), Int.toNat_natCast]
    have e2 : ((N / 256 ^ (m - 1 - i) : Nat) : Int) % 256 = ((N / 256 ^ (m - 1 - i) % 256 : Nat) : Int) := by rw [Int.natCast_emod]; rfl
    rw [e2]
    have f := fill_step (g := fun j => ((N / 256 ^ (m - 1 - j) % 256 : Nat) : Int)) (show i < m by omega)
    rw [f]
    have ih' := ih (i + 1) k (by omega) (by omega)
    rw [show ((i + 1 : Nat) : Int) = (i : Int) + 1 from by omega] at ih'
    exact ih'

theorem FnExactEncodeFixed : laws_FnExactEncodeFixed.Pure := by
  intro n w hn _
  have hb := bounds_i64 hn
  refine ⟨10, ?_⟩
  unfold laws_FnExactEncodeFixed.f spec_EncodeFixed.f impl_EncodeFixed.f
  rw [l1In_is]
  simp only [Option.bind_some, decide_eq_true_eq]
  by_cases h1 : 1 ≤ w
  · by_cases h7 : w ≤ 7
    · rw [if_pos ⟨h1, h7⟩, if_neg (by omega), if_neg (by omega)]
      by_cases h0 : n < 0
      · rw [if_pos h0]
        simp [h0, spec_EncodeFixed.j0, impl_EncodeFixed.j0]
      · rw [if_neg h0, w64 (by omega) (by omega), if_pos (by omega)]
        obtain ⟨N, rfl⟩ := Int.eq_ofNat_of_zero_le (show 0 ≤ n by omega)
        obtain ⟨m, rfl⟩ := Int.eq_ofNat_of_zero_le (show 0 ≤ w by omega)
        have hs := fixed_spec N m (by omega) (by omega) m 0 9 (by omega) (by omega)
        have hi := fixed_impl N m (by omega) (by omega) m 0 9 (by omega) (by omega)
        have es : shr .i64 (N : Int) (8 * (m : Int)) = ((N / 256 ^ m : Nat) : Int) := by
          rw [← pow8, ← shr_nat _ _ (by omega)]
          push_cast
          rfl
        rw [es]
        have e0 : strOfNums (bytesTo N 0) = (⟨#[]⟩ : ByteArray) := rfl
        rw [e0] at hs
        simp only [Nat.pow_zero, Nat.div_one] at hs
        rw [show ((0 : Nat) : Int) = 0 from rfl] at hs hi
        simp only [spec_EncodeFixed.j0, impl_EncodeFixed.j0]
        have hd : decide ((N : Int) < 0) = false := decide_eq_false h0
        rw [hd]
        simp only [Bool.false_eq_true, if_false]
        rw [hs]
        obtain ⟨Q, hQ⟩ : ∃ Q, N / 256 ^ m = Q := ⟨_, rfl⟩
        rw [hQ]
        by_cases hz : Q > 0
        · have hne : ((Q : Int) != 0) = true := by rw [bne_iff_ne]; omega
          rw [if_pos hz, hne]
          simp
        · have hne : ((Q : Int) != 0) = false := by rw [bne_eq_false_iff_eq]; omega
          rw [if_neg hz, hne]
          simp only [Option.bind_some, Bool.false_eq_true, if_false]
          rw [if_pos (by omega), if_pos (by omega)]
          simp only [Option.bind_some, List.length_replicate, Int.toNat_natCast]
          simp only [List.range_zero, List.map_nil, List.nil_append, Nat.sub_zero] at hi
          rw [hi]
          simp
    · rw [if_neg (by omega), if_neg (by omega), if_pos (by omega)]
      simp [spec_EncodeFixed.j0, impl_EncodeFixed.j0]
  · rw [if_neg (by omega), if_pos (by omega)]
    simp [spec_EncodeFixed.j0, impl_EncodeFixed.j0]

end Go.Proofs.Ytoolcfepploeiaa.Pure
