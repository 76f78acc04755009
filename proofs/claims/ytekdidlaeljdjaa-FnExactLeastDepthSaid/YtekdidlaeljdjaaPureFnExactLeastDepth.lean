/- The plain law of LeastDepth. No conditions. -/
import Derived.Test.YtekdidlaeljdjaaPLFnExactLeastDepth
import Derived.Test.YtekdidlaeljdjaaGld
import Derived.Test.YtekdidlaeljdjaaTbe
import Derived.Test.YtekdidlaeljdjaaGld
import Derived.Test.YtekdidlaeljdjaaPLFnExactLeastDepth
import Derived.Test.YtekdidlaeljdjaaPa0
import Derived.Test.YtekdidlaeljdjaaPb0
namespace Go.Proofs.Ytekdidlaeljdjaa.Pure
set_option linter.unusedVariables false
set_option linter.unusedSimpArgs false
open Go Go.RowKit Go.Proofs.Ytekdidlaeljdjaa.P Go.Proofs.Ytekdidlaeljdjaa.Bits Go.Proofs.Ytekdidlaeljdjaa.Tab Go.Proofs.YtekdidlaeljdjaaW.PrintWords Go.Proofs.YtekdidlaeljdjaaW.PrintLast Go.Proofs.YtekdidlaeljdjaaW.PrintMore

theorem pow_le_32 {n : Nat} (hn : n ≤ 5) : 2 ^ n ≤ 32 := Nat.pow_le_pow_right (by decide) hn
theorem shl_two_nat {n : Nat} (hn : n ≤ 5) : shl .i64 1 (n : Int) = ((2 ^ n : Nat) : Int) := by
  have all : ∀ n : Fin 6, shl .i64 1 (n.val : Int) = ((2 ^ n.val : Nat) : Int) := by decide +kernel
  exact all ⟨n, by omega⟩
theorem seen_mono (w m v : Nat) (b : Bool) : ∀ (d a : Nat), seenB w m v b a = true → seenB w m v b (a + d) = true := by
  intro d
  induction d with
  | zero => exact fun a h => h
  | succ d ih =>
    intro a h
    rw [← Nat.add_assoc, seenB, ih a h, Bool.true_or]

def acc (t f : Bool) : Int := if t then 1 else if f then 0 else -1

theorem cube_loop (n m v : Nat) (w : Int) (hn : n ≤ 5) (hm : m < 32) (hv : v < 32) (w0 : 0 ≤ w) (w1 : w ≤ 4294967296) : ∀ (d j k : Nat), j + d = 2 ^ n → d < k → (seenB w.toNat m v true j && seenB w.toNat m v false j) = false →
    spec_l3Cube.l0 k (m : Int) (v : Int) (acc (seenB w.toNat m v true j) (seenB w.toNat m v false j)) (j : Int) (n : Int) w = some (if seenB w.toNat m v false (2 ^ n) && seenB w.toNat m v true (2 ^ n) then 2 else acc (seenB w.toNat m v true (2 ^ n)) (seenB w.toNat m v false (2 ^ n))) := by
  have h32 := pow_le_32 hn
  intro d
  induction d with
  | zero =>
    intro j k hj hk hno
    obtain ⟨k, rfl⟩ : ∃ q, k = q + 1 := ⟨k - 1, by omega⟩
    obtain rfl : j = 2 ^ n := by omega
    simp only [spec_l3Cube.l0]
    rw [if_pos (by omega), shl_two_nat hn, if_neg (by omega), Bool.and_comm, hno]
    simp
  | succ d ih =>
    intro j k hj hk hno
    obtain ⟨k, rfl⟩ : ∃ q, k = q + 1 := ⟨k - 1, by omega⟩
    have ih' := ih (j + 1) k (by omega) (by omega)
    have m1 := seen_mono w.toNat m v true d (j + 1)
    have m2 := seen_mono w.toNat m v false d (j + 1)
    rw [show j + 1 + d = 2 ^ n by omega] at m1 m2
    simp only [spec_l3Cube.l0]
    rw [if_pos (by omega), shl_two_nat hn, if_pos (by omega), and_int (by omega) (by omega) (by omega) (by omega), Int.toNat_natCast, Int.toNat_natCast, shr_is (by omega), bit_is w0 (by omega) (by omega) (by omega), Int.toNat_natCast, w64 (by omega) (by omega)]
    rw [show ((j + 1 : Nat) : Int) = (j : Int) + 1 from by omega] at ih'
    simp only [seenB] at ih' m1 m2
    by_cases hc : j &&& m = v
    · rw [if_pos (by omega), if_pos (by omega)]
      rw [decide_eq_true hc] at ih' m1 m2
      revert ih' m1 m2 hno
      generalize seenB w.toNat m v true j = t
      generalize seenB w.toNat m v false j = f
      generalize seenB w.toNat m v true (2 ^ n) = T
      generalize seenB w.toNat m v false (2 ^ n) = F
      cases w.toNat.testBit j <;> cases t <;> cases f <;> intro hno ih' m1 m2 <;> simp [acc] at hno ih' m1 m2 ⊢ <;> simp_all
    · rw [if_neg (by omega)]
      rw [decide_eq_false hc] at ih'
      simp only [Bool.false_and, Bool.or_false] at ih'
      exact ih' hno


theorem cube_spec (n m x v : Nat) (hn : n ≤ 4) (hm : m < 2 ^ n) (hx : x < 2 ^ n) (hv : v ≤ 4294967296) (K : Nat) (hK : 20 ≤ K) : ∃ r : Int, spec_l3Cube.f K (n : Int) (v : Int) (m : Int) (x : Int) = some r ∧ (r < 2 ↔ ¬ cubeV v m x (2 ^ n) = 2) := by
  have h16 := two16 hn
  have hc := cube_loop n m x (v : Int) (by omega) (by omega) (by omega) (by omega) (by omega) (2 ^ n) 0 K (by omega) (by omega) rfl
  refine ⟨_, hc, ?_⟩
  rw [Int.toNat_natCast]
  unfold cubeV acc
  cases seenB v m x false (2 ^ n) <;> cases seenB v m x true (2 ^ n) <;> simp

theorem and_at (m i : Nat) (hm : m < 16) (hi : i < 4) : (Go.bits .and .i64 (m : Int) (shl .i64 1 (i : Int)) = 0) ↔ m.testBit i = false := by
  have all : ∀ m : Fin 16, ∀ i : Fin 4, (Go.bits .and .i64 (m.val : Int) (shl .i64 1 (i.val : Int)) = 0) ↔ m.val.testBit i.val = false := by decide +kernel
  exact all ⟨m, hm⟩ ⟨i, hi⟩
theorem or_at (m i : Nat) (hm : m < 16) (hi : i < 4) : Go.bits .or .i64 (m : Int) (shl .i64 1 (i : Int)) = ((m ||| 2 ^ i : Nat) : Int) := by
  have all : ∀ m : Fin 16, ∀ i : Fin 4, Go.bits .or .i64 (m.val : Int) (shl .i64 1 (i.val : Int)) = ((m.val ||| 2 ^ i.val : Nat) : Int) := by decide +kernel
  exact all ⟨m, hm⟩ ⟨i, hi⟩
theorem mn_at (a b : Nat) : mn (a : Int) (b : Int) = ((min a b : Nat) : Int) := by
  unfold mn
  split <;> omega
theorem mx_at (a b : Nat) : mx (a : Int) (b : Int) = ((max a b : Nat) : Int) := by
  unfold mx
  split <;> omega

theorem least_spec (n v : Nat) (hn : n ≤ 4) (hv : v ≤ 4294967296) : ∀ (d m x K : Nat), m < 2 ^ n → x < 2 ^ n → freeTo m n = d → 40 + 10 * d ≤ K → spec_l7Least.f K (n : Int) (v : Int) (m : Int) (x : Int) = some ((leastF n v m x : Nat) : Int) := by
  have h16 := two16 hn
  intro d
  induction d using Nat.strongRecOn with
  | _ d ihd =>
    intro m x K hm hx hd hK
    obtain ⟨K, rfl⟩ : ∃ q, K = q + 1 := ⟨K - 1, by omega⟩
    obtain ⟨r, hr, hr2⟩ := cube_spec n m x v hn hm hx hv K (by omega)
    rw [spec_l7Least.f, hr]
    simp only [Option.bind_some]
    by_cases hq : cubeV v m x (2 ^ n) = 2
    · rw [if_neg (fun h => hr2.1 h hq), leastF_ten n v m x hn hm, if_pos hq]
      have hpos := cube_free n v m x hn hm hq
      have loop : ∀ (e i K' : Nat), i + e = n → 39 + 10 * d - i ≤ K' → spec_l7Least.l0 K' (m : Int) (x : Int) ((bestTo (leastF n v) m x 10 i : Nat) : Int) (i : Int) (n : Int) (v : Int) = some ((bestTo (leastF n v) m x 10 n : Nat) : Int) := by
        intro e
        induction e with
        | zero =>
          intro i K' hi hK'
          obtain ⟨K', rfl⟩ : ∃ q, K' = q + 1 := ⟨K' - 1, by omega⟩
          obtain rfl : i = n := by omega
          rw [spec_l7Least.l0, if_neg (by omega)]
        | succ e ihe =>
          intro i K' hi hK'
          obtain ⟨K', rfl⟩ : ∃ q, K' = q + 1 := ⟨K' - 1, by omega⟩
          have ee := ihe (i + 1) K' (by omega) (by omega)
          have hb10 := (bestTo_le (leastF n v) m x 10 i).1
          rw [spec_l7Least.l0, if_pos (by omega), if_pos (by omega), w64 (x := (i : Int) + 1) (by omega) (by omega), show (i : Int) + 1 = ((i + 1 : Nat) : Int) by omega]
          by_cases hb : m.testBit i = false
          · obtain ⟨f1, f2⟩ := free_step n hn m hm i (by omega) hb
            have hx2 : x ||| 2 ^ i < 2 ^ n := Nat.or_lt_two_pow hx (Nat.pow_lt_pow_right (by decide) (by omega))
            have e0 := ihd (freeTo (m ||| 2 ^ i) n) (by omega) (m ||| 2 ^ i) x K' f2 hx rfl (by omega)
            have e1 := ihd (freeTo (m ||| 2 ^ i) n) (by omega) (m ||| 2 ^ i) (x ||| 2 ^ i) K' f2 hx2 rfl (by omega)
            have b0 := Nat.le_trans (leastF_le n v hn _ (m ||| 2 ^ i) x f2 rfl) (free_le n hn _ f2)
            have b1 := Nat.le_trans (leastF_le n v hn _ (m ||| 2 ^ i) (x ||| 2 ^ i) f2 rfl) (free_le n hn _ f2)
            rw [if_pos ((and_at m i (by omega) (by omega)).2 hb), or_at m i (by omega) (by omega), or_at x i (by omega) (by omega), e0]
            simp only [Option.bind_some]
            rw [e1]
            simp only [Option.bind_some]
            rw [mx_at, show (1 : Int) + ((max (leastF n v (m ||| 2 ^ i) x) (leastF n v (m ||| 2 ^ i) (x ||| 2 ^ i)) : Nat) : Int) = ((1 + max (leastF n v (m ||| 2 ^ i) x) (leastF n v (m ||| 2 ^ i) (x ||| 2 ^ i)) : Nat) : Int) by push_cast; rfl, w64 (by omega) (by omega), mn_at]
            have es : bestTo (leastF n v) m x 10 (i + 1) = min (bestTo (leastF n v) m x 10 i) (1 + max (leastF n v (m ||| 2 ^ i) x) (leastF n v (m ||| 2 ^ i) (x ||| 2 ^ i))) := by
              show stepL _ m x _ i = _
              unfold stepL
              rw [if_neg (by rw [hb]; decide)]
            rw [es] at ee
            exact ee
          · rw [if_neg (fun h => hb ((and_at m i (by omega) (by omega)).1 h))]
            have es : bestTo (leastF n v) m x 10 (i + 1) = bestTo (leastF n v) m x 10 i := by
              show stepL _ m x _ i = _
              unfold stepL
              rw [if_pos (by simpa using hb)]
            rw [es] at ee
            exact ee
      exact loop n 0 K (by omega) (by omega)
    · rw [if_pos (hr2.2 hq), leastF_eq n v m x hn hm, if_neg hq]
      rfl

theorem depth_spec (n w : Int) : spec_LeastDepth.f 100 n w = impl_LeastDepth.f n w := by
  unfold spec_LeastDepth.f impl_LeastDepth.f
  rw [spec_IsTable_is]
  simp only [Option.bind_some]
  cases h : isT n w
  · rw [if_neg (by decide), if_neg (by simp)]
  · rw [if_pos rfl]
    obtain ⟨h0, h5, hw, hl⟩ := isT_yes h
    have hl2 := lim_le n
    by_cases h4 : n > 4
    · rw [if_pos h4, if_neg (by omega)]
    · rw [if_neg h4, if_pos ⟨rfl, by omega⟩]
      obtain ⟨n, rfl⟩ := Int.eq_ofNat_of_zero_le h0
      obtain ⟨w, rfl⟩ := Int.eq_ofNat_of_zero_le hw
      have hfr := free_le n (by omega) 0 (Nat.two_pow_pos n)
      have e := least_spec n w (by omega) (by omega) (freeTo 0 n) 0 0 100 (Nat.two_pow_pos n) (Nat.two_pow_pos n) rfl (by omega)
      rw [show ((0 : Nat) : Int) = 0 from rfl] at e
      rw [e]
      simp only [Option.bind_some, Int.toNat_natCast]

theorem FnExactLeastDepth : laws_FnExactLeastDepth.Pure := by
  intro n w _ _
  refine ⟨100, ?_⟩
  unfold laws_FnExactLeastDepth.f laws_toTable.f
  simp only [Option.bind_some, depth_spec n w]
  have : ∃ r, impl_LeastDepth.f n w = some r := by
    unfold impl_LeastDepth.f
    split <;> exact ⟨_, rfl⟩
  obtain ⟨r, hr⟩ := this
  rw [hr]
  simp
end Go.Proofs.Ytekdidlaeljdjaa.Pure
