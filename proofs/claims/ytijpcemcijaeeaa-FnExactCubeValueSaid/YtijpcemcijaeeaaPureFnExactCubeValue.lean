/- The law FnExactCubeValue: its plain function answers true for all its arguments. No conditions but those of the statement. -/
import Derived.Test.YtijpcemcijaeeaaRes
import Derived.Test.YtijpcemcijaeeaaPLFnExactCubeValue
import Derived.Test.YtijpcemcijaeeaaG1t
import Derived.Test.YtijpcemcijaeeaaGcu
import Derived.Test.YtijpcemcijaeeaaPLFnExactCubeValue
import Derived.Test.YtijpcemcijaeeaaPa0
import Derived.Test.YtijpcemcijaeeaaPa2
import Derived.Test.YtijpcemcijaeeaaPa3
import Derived.Test.YtijpcemcijaeeaaPb2
import Derived.Test.YtijpcemcijaeeaaPx4
namespace Go.Proofs.Ytijpcemcijaeeaa.Pure
set_option linter.unusedVariables false
set_option linter.unusedSimpArgs false
open Go Go.RowKit Go.Proofs.Ytijpcemcijaeeaa.P Go.Proofs.Ytijpcemcijaeeaa.Bits Go.Proofs.Ytijpcemcijaeeaa.Tab Go.Proofs.YtijpcemcijaeeaaW.PrintWords Go.Proofs.YtijpcemcijaeeaaW.PrintLast Go.Proofs.YtijpcemcijaeeaaW.PrintMore

theorem seen_mono (w m v : Nat) (b : Bool) : ∀ (d a : Nat), seenB w m v b a = true → seenB w m v b (a + d) = true := by
  intro d
  induction d with
  | zero => exact fun a h => h
  | succ d ih =>
    intro a h
    rw [← Nat.add_assoc, seenB, ih a h, Bool.true_or]

def acc (t f : Bool) : Int := if t then 1 else if f then 0 else -1

theorem cube_loop (n m v : Nat) (w : Int) (hn : n ≤ 5) (hm : m < 32) (hv : v < 32) (w0 : 0 ≤ w) (w1 : w ≤ 4294967296) : ∀ (d j k : Nat), j + d = 2 ^ n → d < k → (seenB w.toNat m v true j && seenB w.toNat m v false j) = false →
    spec_l3Cube.l0 k (m : Int) (v : Int) (acc (seenB w.toNat m v true j) (seenB w.toNat m v false j)) (j : Int) (n : Int) w = some (if seenB w.toNat m v false (2 ^ n) && seenB w.toNat m v true (2 ^ n) then 2 else acc (seenB w.toNat m v true (2 ^ n)) (seenB w.toNat m v false (2 ^ n))) := by
  have h32 := pow_le_32 hn
  intro d
  induction d with
  | zero =>
    intro j k hj hk hno
    obtain ⟨k, rfl⟩ : ∃ q, k = q + 1 := ⟨k - 1, by omega⟩
    obtain rfl : j = 2 ^ n := by omega
    simp only [spec_l3Cube.l0]
    rw [if_pos (by omega), shl_two_nat hn, if_neg (by omega), Bool.and_comm, hno]
    simp
  | succ d ih =>
    intro j k hj hk hno
    obtain ⟨k, rfl⟩ : ∃ q, k = q + 1 := ⟨k - 1, by omega⟩
    have ih' := ih (j + 1) k (by omega) (by omega)
    have m1 := seen_mono w.toNat m v true d (j + 1)
    have m2 := seen_mono w.toNat m v false d (j + 1)
    rw [show j + 1 + d = 2 ^ n by omega] at m1 m2
    simp only [spec_l3Cube.l0]
    rw [if_pos (by omega), shl_two_nat hn, if_pos (by omega), and_int (by omega) (by omega) (by omega) (by omega), Int.toNat_natCast, Int.toNat_natCast, shr_is (by omega), bit_is w0 (by omega) (by omega) (by omega), Int.toNat_natCast, w64 (by omega) (by omega)]
    rw [show ((j + 1 : Nat) : Int) = (j : Int) + 1 from by omega] at ih'
    simp only [seenB] at ih' m1 m2
    by_cases hc : j &&& m = v
    · rw [if_pos (by omega), if_pos (by omega)]
      rw [decide_eq_true hc] at ih' m1 m2
      revert ih' m1 m2 hno
      generalize seenB w.toNat m v true j = t
      generalize seenB w.toNat m v false j = f
      generalize seenB w.toNat m v true (2 ^ n) = T
      generalize seenB w.toNat m v false (2 ^ n) = F
      cases w.toNat.testBit j <;> cases t <;> cases f <;> intro hno ih' m1 m2 <;> simp [acc] at hno ih' m1 m2 ⊢ <;> simp_all
    · rw [if_neg (by omega)]
      rw [decide_eq_false hc] at ih'
      simp only [Bool.false_and, Bool.or_false] at ih'
      exact ih' hno

theorem FnExactCubeValue : laws_FnExactCubeValue.Pure := by
  intro n w m v _ _ _ _
  refine ⟨40, ?_⟩
  unfold laws_FnExactCubeValue.f laws_toTable.f spec_CubeValue.f impl_CubeValue.f impl_isCube.f impl_hasInput.f
  simp only [Option.bind_some, spec_IsTable_is, impl_IsTable_is]
  cases h : isT n w
  · simp
  · obtain ⟨h0, h5, hw, hl⟩ := isT_yes h
    have hl2 := lim_le n
    have ht2 := two_le n
    simp only [if_true]
    rw [if_pos h0, two_at h0 h5, l1In_is, l1In_is, impl_isInput_is h0 h5]
    have e : decide (0 ≤ m ∧ m < two n) = decide (0 ≤ m ∧ m ≤ two n - 1) := by
      rw [decide_eq_decide]
      omega
    rw [e]
    by_cases hm : 0 ≤ m ∧ m ≤ two n - 1
    · rw [decide_eq_true hm]
      simp only [Option.bind_some, if_true]
      by_cases hv : v ≥ 0
      · rw [if_pos hv]
        have hv63 : v ≤ 9223372036854775807 := by
          rename_i q
          simp [Lit.wf] at q
          first | omega | exact wf_hi q
        rw [andNot_int hv hv63 hm.1 (by omega), and_int hv hv63 hm.1 (by omega)]
        by_cases hs : v.toNat &&& m.toNat = v.toNat
        · have hle : v.toNat &&& m.toNat ≤ m.toNat := Nat.and_le_right
          rw [decide_eq_true (show 0 ≤ v ∧ v ≤ m by omega)]
          simp only [Option.bind_some, if_true, hs, Nat.xor_self]
          rw [if_pos (by omega)]
          obtain ⟨N, rfl⟩ := Int.eq_ofNat_of_zero_le h0
          obtain ⟨M, rfl⟩ := Int.eq_ofNat_of_zero_le hm.1
          obtain ⟨V, rfl⟩ := Int.eq_ofNat_of_zero_le hv
          have h32 := pow_le_32 (show N ≤ 5 by omega)
          have hb := two_nat (show N ≤ 5 by omega)
          have hc := cube_loop N M V w (by omega) (by omega) (by omega) hw (by omega) (2 ^ N) 0 40 (by omega) (by omega) rfl
          have hc' : spec_l3Cube.f 40 (N : Int) w (M : Int) (V : Int) = _ := hc
          rw [hc']
          have hi : impl_Table_cube.f (N : Int) w (M : Int) (V : Int) = some (cubeV w.toNat M V (2 ^ N)) := by
            unfold impl_Table_cube.f
            rw [if_pos ⟨h0, h5, hw, by omega, by omega, by omega, by omega, by omega⟩, Int.toNat_natCast, Int.toNat_natCast, Int.toNat_natCast]
          rw [hi]
          simp only [Int.toNat_natCast] at hs hle ⊢
          rw [hs] at hle
          have hsome : (seenB w.toNat M V true (2 ^ N) || seenB w.toNat M V false (2 ^ N)) = true := by
            have hVlt : V + 1 ≤ 2 ^ N := by omega
            have h1 := seen_mono w.toNat M V true (2 ^ N - (V + 1)) (V + 1)
            have h2 := seen_mono w.toNat M V false (2 ^ N - (V + 1)) (V + 1)
            rw [show V + 1 + (2 ^ N - (V + 1)) = 2 ^ N by omega] at h1 h2
            simp only [seenB, decide_eq_true hs, Bool.true_and] at h1 h2
            cases hbit : w.toNat.testBit V
            · rw [h2 (by rw [hbit]; simp), Bool.or_true]
            · rw [h1 (by rw [hbit]; simp), Bool.true_or]
          revert hsome
          unfold cubeV acc
          cases seenB w.toNat M V true (2 ^ N) <;> cases seenB w.toNat M V false (2 ^ N) <;> simp
        · have hx : ¬ (v.toNat ^^^ (v.toNat &&& m.toNat) = 0) := fun q => hs (xor_zero.mp q).symm
          have e1 : (((v.toNat ^^^ (v.toNat &&& m.toNat) : Nat) : Int) == 0) = false := by
            rw [beq_eq_false_iff_ne]
            omega
          rw [e1, if_neg (show ¬ (((v.toNat &&& m.toNat : Nat) : Int) = v) by omega)]
          by_cases hvm : 0 ≤ v ∧ v ≤ m
          · rw [decide_eq_true hvm]; simp
          · rw [decide_eq_false hvm]; simp
      · rw [if_neg hv, decide_eq_false (show ¬ (0 ≤ v ∧ v ≤ m) by omega)]
        simp
    · rw [decide_eq_false hm]
      simp

end Go.Proofs.Ytijpcemcijaeeaa.Pure
