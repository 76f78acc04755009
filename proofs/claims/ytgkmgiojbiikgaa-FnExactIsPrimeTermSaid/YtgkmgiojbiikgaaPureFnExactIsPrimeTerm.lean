/- The law FnExactIsPrimeTerm: its plain function answers true for all its arguments. No conditions but those of the statement. -/
import Derived.Test.YtgkmgiojbiikgaaImp
import Derived.Test.YtgkmgiojbiikgaaPLFnExactIsPrimeTerm
import Derived.Test.YtgkmgiojbiikgaaPLFnExactIsPrimeTerm
import Derived.Test.YtgkmgiojbiikgaaPLFnExactIsPrimeTerm
import Derived.Test.YtgkmgiojbiikgaaPLFnExactIsPrimeTerm
import Derived.Test.YtgkmgiojbiikgaaPLFnExactIsPrimeTerm
import Derived.Test.YtgkmgiojbiikgaaPLFnExactIsPrimeTerm
namespace Go.Proofs.Ytgkmgiojbiikgaa.Pure
set_option linter.unusedVariables false
set_option linter.unusedSimpArgs false
open Go Go.RowKit Go.Proofs.Ytgkmgiojbiikgaa.P Go.Proofs.Ytgkmgiojbiikgaa.Bits Go.Proofs.Ytgkmgiojbiikgaa.Tab Go.Proofs.Ytgkmgiojbiikgaa.Shl Go.Proofs.Ytgkmgiojbiikgaa.Imp Go.Proofs.YtgkmgiojbiikgaaW.PrintWords Go.Proofs.YtgkmgiojbiikgaaW.PrintLast Go.Proofs.YtgkmgiojbiikgaaW.PrintMore

theorem drop_all : ∀ (m : Fin 32) (i : Fin 5), m.val &&& 2 ^ i.val = 0 ∨ (m.val &&& 2 ^ i.val = 2 ^ i.val ∧ 2 ^ i.val ≤ m.val ∧ m.val ^^^ (m.val &&& 2 ^ i.val) = m.val - 2 ^ i.val) := by decide +kernel
theorem drop_val : ∀ (v : Fin 32) (i : Fin 5), v.val &&& 2 ^ i.val ≤ v.val ∧ v.val ^^^ (v.val &&& 2 ^ i.val) = v.val - (v.val &&& 2 ^ i.val) := by decide +kernel

theorem drop_sub {v m p : Nat} (h : v &&& m = v) : (v ^^^ (v &&& p)) &&& (m ^^^ (m &&& p)) = v ^^^ (v &&& p) := by
  apply Nat.eq_of_testBit_eq
  intro i
  have hb : (v &&& m).testBit i = v.testBit i := by rw [h]
  rw [Nat.testBit_and] at hb
  simp only [Nat.testBit_and, Nat.testBit_xor]
  revert hb
  cases v.testBit i <;> cases m.testBit i <;> cases p.testBit i <;> simp

theorem prime_loop (n m v : Nat) (w : Int) (hn : n ≤ 5) (hm : m < 2 ^ n) (hs : v &&& m = v) (w0 : 0 ≤ w) (w1 : w ≤ 4294967296) : ∀ (d i k : Nat), i + d = n → d + 33 < k →
    ∃ r, spec_l6Prime.l0 k (i : Int) (n : Int) w (m : Int) (v : Int) = some r ∧ impl_Table_isPrime.l0 k (n : Int) (i : Int) (n : Int) w (m : Int) (v : Int) = some r := by
  have h32 := pow_le_32 hn
  have hle : v &&& m ≤ m := Nat.and_le_right
  rw [hs] at hle
  intro d
  induction d with
  | zero =>
    intro i k hi hk
    obtain ⟨k, rfl⟩ : ∃ q, k = q + 1 := ⟨k - 1, by omega⟩
    simp only [spec_l6Prime.l0, impl_Table_isPrime.l0]
    rw [if_neg (show ¬ (i : Int) < (n : Int) by omega), if_neg (show ¬ (i : Int) < (n : Int) by omega)]
    exact ⟨_, rfl, rfl⟩
  | succ d ih =>
    intro i k hi hk
    obtain ⟨k, rfl⟩ : ∃ q, k = q + 1 := ⟨k - 1, by omega⟩
    have hp : 2 ^ i ≤ 2 ^ 4 := Nat.pow_le_pow_right (by decide) (by omega)
    have d1 := drop_all ⟨m, by omega⟩ ⟨i, by omega⟩
    have d2 := drop_val ⟨v, by omega⟩ ⟨i, by omega⟩
    simp only at d1 d2
    have hpos := Nat.two_pow_pos i
    have es := shl_one_nat (show i ≤ 62 by omega)
    obtain ⟨p, ep⟩ : ∃ p, p = 2 ^ i := ⟨_, rfl⟩
    rw [← ep] at hp d1 d2 hpos es
    simp only [spec_l6Prime.l0, impl_Table_isPrime.l0]
    rw [if_pos (show (i : Int) < (n : Int) by omega), if_pos (show (i : Int) < (n : Int) by omega), if_pos (show 0 ≤ (i : Int) by omega), if_pos (show 0 ≤ (i : Int) by omega), es, and_int (a := (m : Int)) (by omega) (by omega) (by omega) (by omega), w64 (x := (i : Int) + 1) (by omega) (by omega)]
    simp only [Int.toNat_natCast]
    obtain ⟨r, r1, r2⟩ := ih (i + 1) k (by omega) (by omega)
    rw [show ((i + 1 : Nat) : Int) = (i : Int) + 1 from by omega] at r1 r2
    rcases d1 with d1 | ⟨d1, d3, d4⟩
    · rw [if_pos (by omega), if_pos (by omega)]
      exact ⟨r, r1, r2⟩
    · rw [if_neg (by omega), if_neg (by omega), and_int (a := (v : Int)) (by omega) (by omega) (by omega) (by omega), andNot_int (a := (m : Int)) (by omega) (by omega) (by omega) (by omega), andNot_int (a := (v : Int)) (by omega) (by omega) (by omega) (by omega)]
      simp only [Int.toNat_natCast]
      have hdm := drop_sub (p := p) hs
      rw [w64 (by omega) (by omega), w64 (by omega) (by omega)]
      have e1 : (m : Int) - (p : Int) = ((m ^^^ (m &&& p) : Nat) : Int) := by omega
      have e2 : (v : Int) - ((v &&& p : Nat) : Int) = ((v ^^^ (v &&& p) : Nat) : Int) := by omega
      rw [e1, e2]
      have t := two_nat hn
      rw [implies_spec (by omega) (by omega) w0 w1 (by omega) (by omega) (by omega) (by omega) (by omega), implies_impl (by omega) (by omega) w0 w1 (by omega) (by omega) (by omega) (by rw [Int.toNat_natCast, Int.toNat_natCast]; exact hdm)]
      simp only [Option.bind_some]
      split
      · exact ⟨_, rfl, rfl⟩
      · exact ⟨r, r1, r2⟩

theorem FnExactIsPrimeTerm : laws_FnExactIsPrimeTerm.Pure := by
  intro n w m v _ _ _ hv
  have hv1 : v ≤ 9223372036854775807 := (bounds_i64 hv).2
  refine ⟨50, ?_⟩
  unfold laws_FnExactIsPrimeTerm.f laws_toTable.f laws_toTerm.f spec_IsPrimeTerm.f impl_IsPrimeTerm.f spec_l6Prime.f impl_Table_isPrime.f
  simp only [Option.bind_some, spec_IsTable_is, impl_IsTable_is, spec_IsTerm_is, impl_IsTerm_is n m v hv1]
  cases h : isT n w
  · simp
  · cases g : isM n m v
    · simp
    · obtain ⟨h0, h5, hw, hl⟩ := isT_yes h
      obtain ⟨-, -, g0, g1, g2, g3, g4⟩ := of_decide_eq_true g
      have hl2 := lim_le n
      have ht2 := two_le n
      simp only [if_true]
      rw [implies_spec h0 h5 hw (by omega) g0 (by omega) g2 (by omega) (by decide), implies_impl h0 h5 hw (by omega) g0 g1 g2 g4]
      obtain ⟨N, rfl⟩ := Int.eq_ofNat_of_zero_le h0
      obtain ⟨M, rfl⟩ := Int.eq_ofNat_of_zero_le g0
      obtain ⟨V, rfl⟩ := Int.eq_ofNat_of_zero_le g2
      rw [two_nat (by omega)] at g1
      obtain ⟨r, r1, r2⟩ := prime_loop N M V w (by omega) (by omega) g4 hw (by omega) N 0 50 (by omega) (by omega)
      have r1' : spec_l6Prime.l0 50 0 (N : Int) w (M : Int) (V : Int) = some r := r1
      have r2' : impl_Table_isPrime.l0 50 (N : Int) 0 (N : Int) w (M : Int) (V : Int) = some r := r2
      simp only [Option.bind_some]
      split
      · rw [r1', r2']; simp
      · simp

end Go.Proofs.Ytgkmgiojbiikgaa.Pure
