/- Essential prime terms: the reference's and the program's tests of one place answer the same. Conditions: the bounds that stand in each. -/
import Derived.Test.YtfiejicdlaknnaaK5
import Derived.Test.YtfiejicdlaknnaaK4
import Derived.Test.YtfiejicdlaknnaaPb3
import Derived.Test.YtfiejicdlaknnaaPb4
import Derived.Test.YtfiejicdlaknnaaK1
import Derived.Test.YtfiejicdlaknnaaPv5
import Derived.Test.YtfiejicdlaknnaaK2
import Derived.Test.YtfiejicdlaknnaaK3
import Derived.Test.YtfiejicdlaknnaaPz5
import Derived.Test.YtfiejicdlaknnaaPz6

namespace Go.Proofs.Ytfiejicdlaknnaa.Ess
set_option linter.unusedVariables false
set_option linter.unusedSimpArgs false
open Go Go.RowKit Go.Proofs.Ytfiejicdlaknnaa.P Go.Proofs.Ytfiejicdlaknnaa.Bits Go.Proofs.Ytfiejicdlaknnaa.Tab Go.Proofs.Ytfiejicdlaknnaa.Shl Go.Proofs.Ytfiejicdlaknnaa.Imp Go.Proofs.Ytfiejicdlaknnaa.Pri Go.Proofs.Ytfiejicdlaknnaa.Prm Go.Proofs.YtfiejicdlaknnaaW.PrintWords Go.Proofs.YtfiejicdlaknnaaW.PrintLast Go.Proofs.YtfiejicdlaknnaaW.PrintMore
def rest (l : List S33) (i x : Nat) : Nat → Bool
 | 0 => true
 | j + 1 => rest l i x j && (decide (j = i) || !hold (rd_T33 l (j : Int)) x)
theorem rest_iff (l : List S33) (i x : Nat) : ∀ j, rest l i x j = true ↔ ∀ k, k < j → k ≠ i → hold (rd_T33 l (k : Int)) x = false
 | 0 => by simp [rest]
 | j + 1 => by
  simp only [rest, Bool.and_eq_true, rest_iff l i x j, Bool.or_eq_true, decide_eq_true_eq, Bool.not_eq_true']
  constructor
  ·rintro ⟨h1, h2⟩ k a b
   by_cases e : k = j
   ·subst e
    rcases h2 with h2 | h2
    ·exact absurd h2 b
    ·exact h2
   ·exact h1 k (by omega) b
  ·intro h
   refine ⟨fun k a b => h k (by omega) b, ?_⟩
   by_cases e : j = i
   ·exact Or.inl e
   ·exact Or.inr (h j (by omega) e)
theorem any_cut (l : List S33) (i : Nat) (p : S33 → Bool) : ((l.take i ++ l.drop (i + 1)).any p) = true ↔ ∃ k, k < l.length ∧ k ≠ i ∧ p (rd_T33 l (k : Int)) = true := by
 rw [List.any_append, Bool.or_eq_true, List.any_eq_true, List.any_eq_true]
 constructor
 ·rintro (⟨t, ht, hp⟩ | ⟨t, ht, hp⟩)
  ·obtain ⟨k, hk, rfl⟩ := List.mem_iff_getElem.mp ht
   have hk' : k < i ∧ k < l.length := by rw [List.length_take] at hk; omega
   refine ⟨k, hk'.2, by omega, ?_⟩
   rw [rd_at hk'.2]
   simpa using hp
  ·obtain ⟨k, hk, rfl⟩ := List.mem_iff_getElem.mp ht
   have hk' : i + 1 + k < l.length := by rw [List.length_drop] at hk; omega
   refine ⟨i + 1 + k, hk', by omega, ?_⟩
   rw [rd_at hk']
   simpa using hp
 ·rintro ⟨k, hk, hne, hp⟩
  rw [rd_at hk] at hp
  rcases Nat.lt_or_gt_of_ne hne with h | h
  ·refine Or.inl ⟨l[k], ?_, hp⟩
   rw [List.mem_iff_getElem]
   exact ⟨k, by rw [List.length_take]; omega, by simp⟩
  ·refine Or.inr ⟨l[k], ?_, hp⟩
   rw [List.mem_iff_getElem]
   refine ⟨k - (i + 1), by rw [List.length_drop]; omega, ?_⟩
   simp only [List.getElem_drop]
   congr 1
   omega
theorem take_word {q a : Nat → Bool} {M : Nat} : wordOf q M - (wordOf q M &&& wordOf a M) = wordOf (fun x => q x && !a x) M := by
 rw [sub_and]
 apply Nat.eq_of_testBit_eq
 intro i
 simp only [Nat.testBit_xor, Nat.testBit_and, testBit_wordOf]
 cases decide (i < M) <;> cases q i <;> cases a i <;> rfl
def E (n : Nat) (l : List S33) (i : Nat) : Prop := ∃ x, x < 2 ^ n ∧ (hold (rd_T33 l (i : Int)) x && rest l i x l.length) = true
theorem spec_inner (n W : Nat) (hn : n ≤ 5) (l : List S33) (hl : l = primesL n W) (w : Int) (i : Nat) (hi : i < l.length) (xs : List S33) : ∀ (d j k : Nat), j + d = l.length → d + 34 < k →
  ∃ k', k = k' + d + 1 ∧ spec_EssentialPrimes.l1 k xs l (i : Int) ((wordOf (fun x => hold (rd_T33 l (i : Int)) x && rest l i x j) (2 ^ n) : Nat) : Int) (j : Int) (n : Int) w =
   (if ((wordOf (fun x => hold (rd_T33 l (i : Int)) x && rest l i x l.length) (2 ^ n) : Nat) : Int) > 0 then (if 0 ≤ (i : Int) then (if (i : Int) < (l.length : Int) then (if xs.length < 8796093022208 then (spec_EssentialPrimes.l0 k' (xs ++ [(⟨(rd_T33 l (i : Int)).f0, (rd_T33 l (i : Int)).f1⟩ : S33)]) l (wrap64 ((i : Int) + 1)) (n : Int) w) else (none)) else (none)) else (none)) else (spec_EssentialPrimes.l0 k' xs l (wrap64 ((i : Int) + 1)) (n : Int) w)) := by
 have h32 := pow_le_32 hn
 have hlen : l.length ≤ 1056 := by rw [hl]; exact primesL_len W hn
 intro d
 induction d with
 | zero =>
  intro j k hj hk
  obtain ⟨k, rfl⟩ : ∃ q, k = q + 1 := ⟨k - 1, by omega⟩
  refine ⟨k, by omega, ?_⟩
  obtain rfl : j = l.length := by omega
  simp only [spec_EssentialPrimes.l1]
  rw [if_neg (by omega)]
 | succ d ih =>
  intro j k hj hk
  obtain ⟨k, rfl⟩ : ∃ q, k = q + 1 := ⟨k - 1, by omega⟩
  obtain ⟨k', hk', ih'⟩ := ih (j + 1) k (by omega) (by omega)
  refine ⟨k', by omega, ?_⟩
  rw [← ih']
  simp only [spec_EssentialPrimes.l1]
  rw [if_pos (by omega), show wrap64 ((j : Int) + 1) = ((j + 1 : Nat) : Int) from by rw [w64 (by omega) (by omega)]; omega]
  by_cases e : j = i
  ·rw [if_pos (by omega)]
   have : (fun x => hold (rd_T33 l (i : Int)) x && rest l i x (j + 1)) = (fun x => hold (rd_T33 l (i : Int)) x && rest l i x j) := by
    funext x
    simp [rest, e]
   rw [this]
  ·have hm : rd_T33 l (j : Int) ∈ primesL n W := by rw [← hl]; exact rd_mem (by omega)
   rw [if_neg (by omega), if_pos (by omega), word_is hn hm (by omega)]
   simp only [Option.bind_some]
   have b1 := word63 (fun x => hold (rd_T33 l (i : Int)) x && rest l i x j) (m := 2 ^ n) (by omega)
   have b2 := word63 (hold (rd_T33 l (j : Int))) (m := 2 ^ n) (by omega)
   have hle : wordOf (fun x => hold (rd_T33 l (i : Int)) x && rest l i x j) (2 ^ n) &&& wordOf (hold (rd_T33 l (j : Int))) (2 ^ n) ≤ wordOf (fun x => hold (rd_T33 l (i : Int)) x && rest l i x j) (2 ^ n) := Nat.and_le_left
   rw [p63] at b1 b2
   rw [and_nat _ _ (by rw [p63]; omega) (by rw [p63]; omega)]
   have ew : (fun x => hold (rd_T33 l (i : Int)) x && rest l i x (j + 1)) = (fun x => (hold (rd_T33 l (i : Int)) x && rest l i x j) && !hold (rd_T33 l (j : Int)) x) := by
    funext x
    simp only [rest, decide_eq_false e, Bool.false_or, Bool.and_assoc]
   rw [ew, ← take_word, w64 (by omega) (by omega)]
   congr 1
   omega
theorem rest_any {n W : Nat} (hn : n ≤ 5) {l : List S33} (hl : l = primesL n W) (i x : Nat) (hx : x < 32) : ((l.take i ++ l.drop (i + 1)).any (holdsB (x : Int))) = !rest l i x l.length := by
 rw [Bool.eq_iff_iff, any_cut, Bool.not_eq_true', ← Bool.not_eq_true, rest_iff]
 constructor
 ·rintro ⟨k, h1, h2, h3⟩ q
  rw [holdsB_is hn (by rw [← hl]; exact rd_mem h1) hx, q k h1 h2] at h3
  exact absurd h3 (by decide)
 ·intro q
  apply Classical.byContradiction
  intro hno
  apply q
  intro k h1 h2
  cases hb : hold (rd_T33 l (k : Int)) x
  ·rfl
  ·refine absurd ⟨k, h1, h2, ?_⟩ hno
   rw [holdsB_is hn (by rw [← hl]; exact rd_mem h1) hx]
   exact hb
theorem differs_iff {n W : Nat} (hn : n ≤ 5) (hW : W < 2 ^ 2 ^ n) {l : List S33} (hl : l = primesL n W) (i : Nat) (hi : i < l.length) :
  (wordOf (fun x => (l.take i ++ l.drop (i + 1)).any (holdsB (x : Int))) (2 ^ n) ≠ W) ↔ E n l i := by
 have h32 := pow_le_32 hn
 constructor
 ·intro h
  apply Classical.byContradiction
  intro hno
  apply h
  rw [← wordOf_testBit W (2 ^ n) hW]
  apply wordOf_congr
  intro x hx
  show ((l.take i ++ l.drop (i + 1)).any (holdsB (x : Int))) = W.testBit x
  rw [rest_any hn hl i x (by omega), ← any_primes hx, ← hl, Bool.eq_iff_iff, Bool.not_eq_true', List.any_eq_true]
  constructor
  ·intro hr
   apply Classical.byContradiction
   intro hnone
   have : rest l i x l.length = true := by
    rw [rest_iff]
    intro k hk _
    cases hb : hold (rd_T33 l (k : Int)) x
    ·rfl
    ·exact absurd ⟨_, rd_mem hk, hb⟩ hnone
   rw [this] at hr
   exact absurd hr (by decide)
  ·rintro ⟨t, ht, hh⟩
   rw [← Bool.not_eq_true]
   intro hr
   obtain ⟨k, hk, rfl⟩ := List.mem_iff_getElem.mp ht
   rw [← rd_at hk] at hh
   by_cases e : k = i
   ·subst e
    exact hno ⟨x, hx, by rw [hh, hr]; rfl⟩
   ·rw [(rest_iff l i x l.length).mp hr k hk e] at hh
    exact absurd hh (by decide)
 ·rintro ⟨x, hx, hE⟩ h
  rw [Bool.and_eq_true] at hE
  have hb : W.testBit x = true := hold_in (W := W) (by rw [← hl]; exact rd_mem hi) hx hE.1
  rw [← h, testBit_wordOf, rest_any hn hl i x (by omega), hE.2] at hb
  simp at hb
end Go.Proofs.Ytfiejicdlaknnaa.Ess

namespace Go.Proofs.Ytfiejicdlaknnaa.Msm
set_option linter.unusedVariables false
set_option linter.unusedSimpArgs false
open Go Go.RowKit Go.Proofs.Ytfiejicdlaknnaa.P Go.Proofs.Ytfiejicdlaknnaa.Bits Go.Proofs.Ytfiejicdlaknnaa.Tab Go.Proofs.Ytfiejicdlaknnaa.Shl Go.Proofs.Ytfiejicdlaknnaa.Imp Go.Proofs.Ytfiejicdlaknnaa.Pri Go.Proofs.Ytfiejicdlaknnaa.Prm Go.Proofs.Ytfiejicdlaknnaa.Ess Go.Proofs.Ytfiejicdlaknnaa.Min Go.Proofs.YtfiejicdlaknnaaW.PrintWords Go.Proofs.YtfiejicdlaknnaaW.PrintLast Go.Proofs.YtfiejicdlaknnaaW.PrintMore
def wsOf (n : Nat) (l : List S33) : List Nat := l.map fun t => wordOf (hold t) (2 ^ n)
theorem ws_len (n : Nat) (l : List S33) : (wsOf n l).length = l.length := by simp [wsOf]
theorem ws_at {n : Nat} {l : List S33} {i : Nat} (h : i < l.length) : wAt (wsOf n l) i = wordOf (hold (rd_T33 l (i : Int))) (2 ^ n) := by
 unfold wAt wsOf
 rw [List.getD_eq_getElem?_getD, List.getElem?_map, List.getElem?_eq_getElem h, rd_at h]
 rfl
theorem ws_off {n : Nat} {l : List S33} {i : Nat} (h : l.length ≤ i) : wAt (wsOf n l) i = 0 := by
 unfold wAt
 rw [List.getD_eq_getElem?_getD, List.getElem?_eq_none (by rw [ws_len]; exact h)]
 rfl
theorem ws_sub {n W : Nat} {l : List S33} (hl : l = primesL n W) (i : Nat) : wAt (wsOf n l) i &&& W = wAt (wsOf n l) i := by
 rcases Nat.lt_or_ge i l.length with h | h
 ·rw [ws_at h]
  apply Nat.eq_of_testBit_eq
  intro x
  rw [Nat.testBit_and, testBit_wordOf]
  by_cases hx : x < 2 ^ n
  ·cases hh : hold (rd_T33 l (i : Int)) x
   ·simp
   ·rw [hold_in (by rw [← hl]; exact rd_mem h) hx hh]
    simp
  ·simp [hx]
 ·rw [ws_off h]
  simp
theorem ws_small {n : Nat} (hn : n ≤ 5) (l : List S33) (i : Nat) : wAt (wsOf n l) i < 2 ^ 32 := by
 rcases Nat.lt_or_ge i l.length with h | h
 ·rw [ws_at h]
  exact Nat.lt_of_lt_of_le (wordOf_lt _ _) (Nat.pow_le_pow_right (by decide) (pow_le_32 hn))
 ·rw [ws_off h]
  decide
def ansS (l : List S33) : Option (List Nat) → List S33 × Bool
 | some x => (x.map fun (j : Nat) => rd_T33 l (j : Int), true)
 | none => ([], false)
def ansI : Option (List Nat) → List Int × Bool
 | some x => (x.map fun (j : Nat) => (j : Int), true)
 | none => ([], false)
theorem cut_small {a b : Nat} (h : a < 2 ^ 32) : cut a b < 2 ^ 32 := by
 unfold cut
 exact Nat.xor_lt_two_pow h (Nat.lt_of_le_of_lt Nat.and_le_left h)
theorem cover_l0 {n W : Nat} (hn : n ≤ 5) {l : List S33} (hl : l = primesL n W) (w : Int) : ∀ (d K k left i : Nat), i + d = l.length → left < 2 ^ 32 → 1 ≤ k → k ≤ 100 → 2 * d + 40 ≤ K →
  spec_l6Cover.l0 K l (left : Int) (k : Int) (i : Int) (n : Int) w = some (ansS l (G (wsOf n l) d k left i)) := by
 have hlen : l.length ≤ 1056 := by rw [hl]; exact primesL_len W hn
 have h32 := pow_le_32 hn
 intro d
 induction d with
 | zero =>
  intro K k left i hi hleft hk hk2 hK
  obtain ⟨K, rfl⟩ : ∃ q, K = q + 1 := ⟨K - 1, by omega⟩
  simp only [spec_l6Cover.l0]
  rw [if_neg (by omega)]
  rfl
 | succ d ih =>
  intro K k left i hi hleft hk hk2 hK
  obtain ⟨K, rfl⟩ : ∃ q, K = q + 1 := ⟨K - 1, by omega⟩
  have hil : i < l.length := by omega
  have hm : rd_T33 l (i : Int) ∈ primesL n W := by rw [← hl]; exact rd_mem hil
  have hwz := ws_small hn l i
  have hcz := cut_small (b := wAt (wsOf n l) i) hleft
  have next := ih K k left (i + 1) (by omega) hleft hk hk2 (by omega)
  have hw1 : Aside0 (wrap64 ((i : Int) + 1) = ((i + 1 : Nat) : Int)) := ⟨by rw [w64 (by omega) (by omega)]; omega⟩
  rw [G_succ]
  simp only [spec_l6Cover.l0]
  rw [if_pos (show (i : Int) < (l.length : Int) by omega), if_pos (show 0 ≤ (i : Int) by omega), word_is hn hm (by omega)]
  simp only [Option.bind_some]
  rw [← ws_at hil, hw1.out]
  generalize wAt (wsOf n l) i = v at *
  have e1 : bits .and .i64 (v : Int) (left : Int) = ((v &&& left : Nat) : Int) := and_nat _ _ (by rw [p63]; omega) (by rw [p63]; omega)
  have e2 : bits .and .i64 (left : Int) (v : Int) = ((left &&& v : Nat) : Int) := and_nat _ _ (by rw [p63]; omega) (by rw [p63]; omega)
  have hle : left &&& v ≤ left := Nat.and_le_left
  have e3 : Aside0 (wrap64 ((left : Int) - ((left &&& v : Nat) : Int)) = ((cut left v : Nat) : Int)) := ⟨by
   rw [w64 (by omega) (by omega)]
   unfold cut
   rw [← sub_and]
   omega⟩
  have e4 : Aside0 (wrap64 ((k : Int) - 1) = ((k - 1 : Nat) : Int)) := ⟨by rw [w64 (by omega) (by omega)]; omega⟩
  rw [e1, e2, e3.out, e4.out]
  by_cases hs : v &&& left = 0
  ·rw [if_pos (by omega), if_pos hs]
   exact next
  ·rw [if_neg (by omega), if_neg hs]
   have ef : spec_l6Cover.f K (n : Int) w l ((i + 1 : Nat) : Int) ((cut left v : Nat) : Int) ((k - 1 : Nat) : Int) = some (ansS l (F (wsOf n l) d (k - 1) (cut left v) (i + 1))) := by
    obtain ⟨K, rfl⟩ : ∃ q, K = q + 1 := ⟨K - 1, by omega⟩
    simp only [spec_l6Cover.f]
    unfold F
    by_cases h0 : cut left v = 0
    ·rw [if_pos (by omega), if_pos h0]
     rfl
    ·rw [if_neg (by omega), if_neg h0]
     by_cases h1 : k - 1 = 0
     ·rw [if_pos (by omega), if_pos h1]
      rfl
     ·rw [if_neg (by omega), if_neg h1]
      exact ih K (k - 1) (cut left v) (i + 1) (by omega) hcz (by omega) (by omega) (by omega)
   rw [ef]
   simp only [Option.bind_some]
   cases hf : F (wsOf n l) d (k - 1) (cut left v) (i + 1) with
   | none =>
    show (if (ansS l none).2 = true then _ else _) = _
    rw [if_neg (by simp [ansS])]
    exact next
   | some x =>
    obtain ⟨g1, _, _⟩ := F_sound _ hf
    have := g1.length
    show (if (ansS l (some x)).2 = true then _ else _) = _
    rw [if_pos (by simp [ansS]), if_pos (by simp [ansS]; omega)]
    rfl
theorem cover_f {n W : Nat} (hn : n ≤ 5) {l : List S33} (hl : l = primesL n W) (w : Int) (K k left : Nat) (hleft : left < 2 ^ 32) (hk2 : k ≤ 100) (hK : 2 * l.length + 41 ≤ K) :
  spec_l6Cover.f K (n : Int) w l 0 (left : Int) (k : Int) = some (ansS l (F (wsOf n l) l.length k left 0)) := by
 obtain ⟨K, rfl⟩ : ∃ q, K = q + 1 := ⟨K - 1, by omega⟩
 simp only [spec_l6Cover.f]
 unfold F
 by_cases h0 : left = 0
 ·rw [if_pos (by omega), if_pos h0]
  rfl
 ·rw [if_neg (by omega), if_neg h0]
  by_cases h1 : k = 0
  ·rw [if_pos (by omega), if_pos h1]
   rfl
  ·rw [if_neg (by omega), if_neg h1]
   exact cover_l0 hn hl w l.length K k left 0 (by omega) hleft (by omega) hk2 (by omega)
def wsI (n : Nat) (l : List S33) : List Int := (wsOf n l).map fun (v : Nat) => (v : Int)
theorem wsI_len (n : Nat) (l : List S33) : (wsI n l).length = l.length := by simp [wsI, wsOf]
theorem wsI_at (n : Nat) (l : List S33) (i : Nat) : rd (wsI n l) (i : Int) = ((wAt (wsOf n l) i : Nat) : Int) := by
 unfold rd wAt wsI
 rw [Int.toNat_natCast, List.getD_eq_getElem?_getD, List.getD_eq_getElem?_getD, List.getElem?_map]
 cases (wsOf n l)[i]? <;> rfl
theorem or_small {a b : Nat} (ha : a < 2 ^ 32) (hb : b < 2 ^ 32) : a ||| b < 2 ^ 32 := Nat.or_lt_two_pow ha hb
theorem choose_l0 {n W : Nat} (hn : n ≤ 5) {l : List S33} (hl : l = primesL n W) : ∀ (d K k hv i : Nat), i + d = l.length → hv < 2 ^ 32 → 1 ≤ k → k ≤ l.length → 2 * d + 40 ≤ K →
  impl_choose.l0 K (wsI n l) (W : Int) (hv : Int) (k : Int) (i : Int) = some (ansI (H (wsOf n l) W d k hv i)) := by
 have hlen : l.length ≤ 1056 := by rw [hl]; exact primesL_len W hn
 intro d
 induction d with
 | zero =>
  intro K k hv i hi hhv hk hk2 hK
  obtain ⟨K, rfl⟩ : ∃ q, K = q + 1 := ⟨K - 1, by omega⟩
  simp only [impl_choose.l0, wsI_len]
  rw [w64 (by omega) (by omega), if_neg (by omega)]
  rfl
 | succ d ih =>
  intro K k hv i hi hhv hk hk2 hK
  obtain ⟨K, rfl⟩ : ∃ q, K = q + 1 := ⟨K - 1, by omega⟩
  have hil : i < l.length := by omega
  have hwz := ws_small hn l i
  have next := ih K k hv (i + 1) (by omega) hhv hk hk2 (by omega)
  have hw1 : Aside0 (wrap64 ((i : Int) + 1) = ((i + 1 : Nat) : Int)) := ⟨by rw [w64 (by omega) (by omega)]; omega⟩
  have e4 : Aside0 (wrap64 ((k : Int) - 1) = ((k - 1 : Nat) : Int)) := ⟨by rw [w64 (by omega) (by omega)]; omega⟩
  rw [H_succ]
  simp only [impl_choose.l0, wsI_len, wsI_at]
  rw [w64 (x := (l.length : Int) - (k : Int)) (by omega) (by omega), hw1.out, e4.out]
  by_cases hkd : k ≤ d + 1
  ·rw [if_pos (show (i : Int) ≤ (l.length : Int) - (k : Int) by omega), if_pos hkd, if_pos (show 0 ≤ (i : Int) by omega), if_pos (show (i : Int) < (l.length : Int) by omega)]
   generalize wAt (wsOf n l) i = v at *
   have e1 : bits .andNot .i64 (v : Int) (hv : Int) = ((cut v hv : Nat) : Int) := andNot_nat _ _ (by rw [p63]; omega) (by rw [p63]; omega)
   have e2 : bits .or .i64 (hv : Int) (v : Int) = ((hv ||| v : Nat) : Int) := or_nat _ _ (by rw [p63]; omega) (by rw [p63]; omega)
   have hoz := or_small hhv hwz
   rw [e1, e2]
   by_cases hs : cut v hv = 0
   ·rw [if_pos (by omega), if_pos hs]
    exact next
   ·rw [if_neg (by omega), if_neg hs]
    have ef : impl_choose.f K (wsI n l) (W : Int) ((hv ||| v : Nat) : Int) ((i + 1 : Nat) : Int) ((k - 1 : Nat) : Int) = some (ansI (C (wsOf n l) W d (k - 1) (hv ||| v) (i + 1))) := by
     obtain ⟨K, rfl⟩ : ∃ q, K = q + 1 := ⟨K - 1, by omega⟩
     simp only [impl_choose.f]
     unfold C
     by_cases h1 : k - 1 = 0
     ·rw [if_pos (by omega), if_pos h1]
      by_cases h2 : hv ||| v = W
      ·rw [if_pos h2, show ((((hv ||| v : Nat) : Int)) == (W : Int)) = true from by rw [h2, beq_self_eq_true]]
       rfl
      ·rw [if_neg h2, show ((((hv ||| v : Nat) : Int)) == (W : Int)) = false from by rw [beq_eq_false_iff_ne]; omega]
       rfl
     ·rw [if_neg (by omega), if_neg h1]
      exact ih K (k - 1) (hv ||| v) (i + 1) (by omega) hoz (by omega) (by omega) (by omega)
    rw [ef]
    simp only [Option.bind_some]
    cases hf : C (wsOf n l) W d (k - 1) (hv ||| v) (i + 1) with
    | none =>
     show (if (ansI none).2 = true then _ else _) = _
     rw [if_neg (by simp [ansI])]
     exact next
    | some x =>
     have hxl : x.length ≤ 2000 := by
      clear next ef ih
      have : ∀ (d k hv i : Nat) (x : List Nat), C (wsOf n l) W d k hv i = some x → x.length ≤ k := by
       intro d
       induction d with
       | zero =>
        intro k hv i x h
        unfold C at h
        split at h
        ·split at h
         ·obtain rfl := Option.some.inj h; simp
         ·cases h
        ·cases h
       | succ d ih =>
        intro k hv i x h
        unfold C at h
        split at h
        ·split at h
         ·obtain rfl := Option.some.inj h; simp
         ·cases h
        ·rename_i hk0
         have nx : ∀ y, H (wsOf n l) W d k hv (i + 1) = some y → y.length ≤ k := fun y hy => ih k hv (i + 1) y (by unfold C; rw [if_neg hk0]; exact hy)
         rw [H_succ] at h
         split at h
         ·split at h
          ·exact nx x h
          ·cases hf : C (wsOf n l) W d (k - 1) (hv ||| wAt (wsOf n l) i) (i + 1) with
           | none => rw [hf] at h; exact nx x h
           | some y =>
            rw [hf] at h
            obtain rfl := Option.some.inj h
            have := ih _ _ _ _ hf
            simp
            omega
         ·cases h
      have := this _ _ _ _ _ hf
      omega
     show (if (ansI (some x)).2 = true then _ else _) = _
     rw [if_pos (by simp [ansI]), if_pos (by simp [ansI]; omega)]
     rfl
  ·rw [if_neg (show ¬ (i : Int) ≤ (l.length : Int) - (k : Int) by omega), if_neg hkd]
   rfl
theorem choose_f {n W : Nat} (hn : n ≤ 5) {l : List S33} (hl : l = primesL n W) (K k : Nat) (hk2 : k ≤ l.length) (hK : 2 * l.length + 41 ≤ K) :
  impl_choose.f K (wsI n l) (W : Int) 0 0 (k : Int) = some (ansI (C (wsOf n l) W l.length k 0 0)) := by
 obtain ⟨K, rfl⟩ : ∃ q, K = q + 1 := ⟨K - 1, by omega⟩
 simp only [impl_choose.f]
 unfold C
 by_cases h1 : k = 0
 ·rw [if_pos (by omega), if_pos h1]
  by_cases h2 : 0 = W
  ·rw [if_pos h2, show ((0 : Int) == (W : Int)) = true from by rw [beq_iff_eq]; omega]
   rfl
  ·rw [if_neg h2, show ((0 : Int) == (W : Int)) = false from by rw [beq_eq_false_iff_ne]; omega]
   rfl
 ·rw [if_neg (by omega), if_neg h1]
  exact choose_l0 hn hl l.length K k 0 0 (by omega) (by decide) (by omega) hk2 (by omega)
theorem im_cover2 (n W : Nat) : ∀ (m v : Nat), m < 2 ^ n → v &&& m = v → im n W m v = true → ∃ t ∈ primesL n W, ∀ y, y &&& m = v → hold t y = true := by
 intro m
 induction m using Nat.strongRecOn with
 | ind m ih =>
  intro v hm hv hi
  by_cases hp : prB n W m v = true
  ·exact ⟨⟨(m : Int), (v : Int)⟩, (primesL_mem n W _).mpr ⟨m, v, hm, hv, hp, rfl⟩, fun y hy => decide_eq_true (by simpa using hy)⟩
  ·have hnd : ¬ noDrop n W m v 0 n = true := by
    intro q
    apply hp
    unfold prB
    rw [hi, q]
    rfl
   rw [noDrop_iff] at hnd
   have : ∃ j, j < n ∧ m.testBit j = true ∧ im n W (m ^^^ (m &&& 2 ^ j)) (v ^^^ (v &&& 2 ^ j)) = true := by
    apply Classical.byContradiction
    intro hno
    apply hnd
    intro j _ hj hb
    cases hq : im n W (m ^^^ (m &&& 2 ^ j)) (v ^^^ (v &&& 2 ^ j))
    ·rfl
    ·exact absurd ⟨j, by omega, hb, hq⟩ hno
   obtain ⟨j, hj, hb, hq⟩ := this
   have hlt := drop_lt hb
   obtain ⟨t, ht, hh⟩ := ih _ hlt _ (by omega) (drop_sub hv) hq
   exact ⟨t, ht, fun y hy => hh y (drop_hold hy)⟩
theorem pair_all : ∀ (n : Fin 5) (j : Fin 8), (2 * j.val + 1 < 2 ^ n.val → (2 ^ n.val - 2 < 2 ^ n.val ∧ (2 * j.val) &&& (2 ^ n.val - 2) = 2 * j.val ∧ (2 * j.val + 1) &&& (2 ^ n.val - 2) = 2 * j.val)) := by decide +kernel
theorem pair_back : ∀ (n : Fin 5) (j : Fin 8) (y : Fin 16), 2 * j.val + 1 < 2 ^ n.val → y.val < 2 ^ n.val → y.val &&& (2 ^ n.val - 2) = 2 * j.val → y.val = 2 * j.val ∨ y.val = 2 * j.val + 1 := by decide +kernel
def ptIn (n W j x : Nat) : Prop := x < 2 ^ n ∧ W.testBit x = true ∧ x / 2 = j
theorem pair_prime {n W : Nat} (hn : n ≤ 4) {j : Nat} (hj : j < 8) : ∃ t, (∃ x, ptIn n W j x) → (t ∈ primesL n W ∧ ∀ x, ptIn n W j x → hold t x = true) := by
 by_cases h : ∃ x, ptIn n W j x
 ·have h16 : 2 ^ n ≤ 2 ^ 4 := Nat.pow_le_pow_right (by decide) hn
  by_cases hb : ptIn n W j (2 * j) ∧ ptIn n W j (2 * j + 1)
  ·obtain ⟨⟨b1, b2, _⟩, ⟨b3, b4, _⟩⟩ := hb
   have ha := pair_all ⟨n, by omega⟩ ⟨j, hj⟩ b3
   simp only at ha
   obtain ⟨t, ht, hh⟩ := im_cover2 n W (2 ^ n - 2) (2 * j) ha.1 ha.2.1 (by
    rw [im_iff]
    intro y hy he
    rcases pair_back ⟨n, by omega⟩ ⟨j, hj⟩ ⟨y, by omega⟩ b3 hy he with e | e
    ·simp only at e; rw [e]; exact b2
    ·simp only at e; rw [e]; exact b4)
   refine ⟨t, fun _ => ⟨ht, fun x hx => hh x ?_⟩⟩
   have : x = 2 * j ∨ x = 2 * j + 1 := by have := hx.2.2; omega
   rcases this with e | e
   ·rw [e]; exact ha.2.1
   ·rw [e]; exact ha.2.2
  ·obtain ⟨x, hx⟩ := h
   obtain ⟨t, ht, hh⟩ := Go.Proofs.Ytfiejicdlaknnaa.Prm.cover hx.1 hx.2.1
   refine ⟨t, fun _ => ⟨ht, fun y hy => ?_⟩⟩
   have : y = x := by
    apply Classical.byContradiction
    intro hne
    apply hb
    have h1 := hx.2.2
    have h2 := hy.2.2
    have : (x = 2 * j ∧ y = 2 * j + 1) ∨ (x = 2 * j + 1 ∧ y = 2 * j) := by omega
    rcases this with ⟨e1, e2⟩ | ⟨e1, e2⟩
    ·rw [e1] at hx; rw [e2] at hy; exact ⟨hx, hy⟩
    ·rw [e1] at hx; rw [e2] at hy; exact ⟨hy, hx⟩
   rw [this]
   exact hh
 ·exact ⟨⟨0, 0⟩, fun q => absurd q h⟩
theorem pairwise_filter_range (p : Nat → Bool) (d i : Nat) : ((List.range' i d).filter p).Pairwise (· ≠ ·) := by
 apply List.Pairwise.filter
 exact List.Pairwise.imp (fun h => Nat.ne_of_lt h) (List.pairwise_lt_range' (s := i) (n := d))
theorem eight {n W : Nat} (hn : n ≤ 4) (hW : W < 2 ^ 2 ^ n) {l : List S33} (hl : l = primesL n W) : ∃ x, Inc l.length 0 x ∧ x.length ≤ 8 ∧ Cov (wsOf n l) W x := by
 have key : ∀ j, j < 8 → ∃ a : Nat, (∃ x, ptIn n W j x) → (a < l.length ∧ ∀ x, ptIn n W j x → hold (rd_T33 l (a : Int)) x = true) := by
  intro j hj
  obtain ⟨t, ht⟩ := pair_prime (W := W) hn hj
  by_cases h : ∃ x, ptIn n W j x
  ·obtain ⟨h1, h2⟩ := ht h
   rw [← hl] at h1
   obtain ⟨a, ha, rfl⟩ := List.mem_iff_getElem.mp h1
   exact ⟨a, fun _ => ⟨ha, fun x hx => by rw [rd_at ha]; exact h2 x hx⟩⟩
  ·exact ⟨0, fun q => absurd q h⟩
 obtain ⟨c, hc⟩ : ∃ c : Nat → Nat, ∀ j, j < 8 → (∃ x, ptIn n W j x) → (c j < l.length ∧ ∀ x, ptIn n W j x → hold (rd_T33 l (c j : Int)) x = true) := by
  refine ⟨fun j => if h : j < 8 then (key j h).choose else 0, fun j hj => ?_⟩
  simp only [dif_pos hj]
  exact (key j hj).choose_spec
 refine ⟨(List.range' 0 l.length).filter (fun i => ((List.range 8).map c).contains i), ?_, ?_, ?_⟩
 ·have := inc_filter (fun i => ((List.range 8).map c).contains i) l.length 0
  rwa [Nat.zero_add] at this
 ·have := nodup_len _ ((List.range 8).map c) (pairwise_filter_range (fun i => ((List.range 8).map c).contains i) l.length 0) (fun x hx => by
   have := (List.mem_filter.mp hx).2
   simpa using this)
  simpa using this
 ·intro b hb
  have hbn : b < 2 ^ n := by
   rcases Nat.lt_or_ge b (2 ^ n) with h | h
   ·exact h
   ·rw [Nat.testBit_lt_two_pow (Nat.lt_of_lt_of_le hW (Nat.pow_le_pow_right (by decide) h))] at hb
    cases hb
  have h16 : 2 ^ n ≤ 2 ^ 4 := Nat.pow_le_pow_right (by decide) hn
  have hj : b / 2 < 8 := by omega
  have hp : ptIn n W (b / 2) b := ⟨hbn, hb, rfl⟩
  obtain ⟨h1, h2⟩ := hc (b / 2) hj ⟨b, hp⟩
  refine ⟨c (b / 2), ?_, ?_⟩
  ·rw [List.mem_filter]
   refine ⟨by rw [List.mem_range'_1]; omega, ?_⟩
   rw [List.contains_iff_mem]
   exact List.mem_map.mpr ⟨b / 2, List.mem_range.mpr hj, rfl⟩
  ·rw [ws_at h1, testBit_wordOf, h2 b hp]
   simp [hbn]
end Go.Proofs.Ytfiejicdlaknnaa.Msm

namespace Go.Proofs.Ytfiejicdlaknnaa.Pap
set_option linter.unusedVariables false
set_option linter.unusedSimpArgs false
open Go Go.RowKit Go.Proofs.Ytfiejicdlaknnaa.P Go.Proofs.Ytfiejicdlaknnaa.Bits Go.Proofs.Ytfiejicdlaknnaa.Tab Go.Proofs.Ytfiejicdlaknnaa.Shl Go.Proofs.Ytfiejicdlaknnaa.Fmt Go.Proofs.YtfiejicdlaknnaaW.PrintWords Go.Proofs.YtfiejicdlaknnaaW.PrintLast Go.Proofs.YtfiejicdlaknnaaW.PrintMore
def okC (c : Int) : Prop := c = 33 ∨ (97 ≤ c ∧ c < 102)
def okB (s : ByteArray) : Prop := ∀ b ∈ s.data.toList, okC (b.toNat : Int)
theorem okB_nums (xs : List Int) (h : ∀ x ∈ xs, okC x) : okB (strOfNums xs) := by
 intro b hb
 rw [strOfNums_data, List.mem_map] at hb
 obtain ⟨x, hx, rfl⟩ := hb
 have := h x hx
 unfold okC at *
 have e : (UInt8.ofNat x.toNat).toNat = x.toNat := by
  rw [UInt8.toNat_ofNat']
  exact Nat.mod_eq_of_lt (by omega)
 rw [e]
 omega
theorem bt_ok (s : ByteArray) (h : okB s) (j : Nat) (hj : j < s.size) : okC (bt s (j : Int)) := by
 have hj' : (j : Int).toNat < s.size := by rw [Int.toNat_natCast]; exact hj
 unfold bt
 rw [dif_pos hj']
 refine h _ ?_
 have : s.data[(j : Int).toNat]'hj' ∈ s.data := Array.getElem_mem _
 exact Array.mem_toList_iff.mpr this
theorem fmt_good : ∀ (k : Nat) (xs : List Int) (n i m v : Int) (r : ByteArray), (∀ x ∈ xs, okC x) → 0 ≤ i → n ≤ 5 → impl_FormatTerm.l0 k xs n i m v = some r → r = (⟨#[49]⟩ : ByteArray) ∨ okB r := by
 intro k
 induction k with
 | zero => intro xs n i m v r _ _ _ h; simp [impl_FormatTerm.l0] at h
 | succ k ih =>
  intro xs n i m v r hx hi hn h
  simp only [impl_FormatTerm.l0] at h
  by_cases c1 : i < n
  ·rw [if_pos c1, if_pos hi, w64 (by omega) (by omega)] at h
   have hl : okC (97 + i) := Or.inr ⟨by omega, by omega⟩
   have hb : okC 33 := Or.inl rfl
   have e : (97 + i) % 256 = 97 + i := by omega
   rw [e] at h
   split at h
   ·exact ih xs n (i + 1) m v r hx (by omega) hn h
   ·split at h
    ·split at h
     ·simp only [Option.bind_some] at h
      split at h
      ·refine ih _ n (i + 1) m v r ?_ (by omega) hn h
       intro x hm
       simp only [List.mem_append, List.mem_singleton] at hm
       rcases hm with (hm | rfl) | rfl
       ·exact hx x hm
       ·exact hb
       ·exact hl
      ·exact absurd h (by simp)
     ·exact absurd h (by simp)
    ·split at h
     ·refine ih _ n (i + 1) m v r ?_ (by omega) hn h
      intro x hm
      simp only [List.mem_append, List.mem_singleton] at hm
      rcases hm with hm | rfl
      ·exact hx x hm
      ·exact hl
     ·exact absurd h (by simp)
  ·rw [if_neg c1] at h
   split at h
   ·exact Or.inl (Option.some.inj h).symm
   ·rw [← Option.some.inj h]
    exact Or.inr (okB_nums xs hx)
theorem format_any (n m v : Int) (hv1 : v ≤ 9223372036854775807) : ∃ r, (∀ k, 40 ≤ k → spec_FormatTerm.f k n m v = some r ∧ impl_FormatTerm.f k n m v = some r) ∧ (isM n m v = false → r = (⟨#[]⟩ : ByteArray)) ∧ (r = (⟨#[49]⟩ : ByteArray) ∨ okB r) := by
 obtain ⟨r, r1, r2⟩ := format_same n m v hv1
 have hf := r2
 unfold impl_FormatTerm.f at hf
 simp only [impl_IsTerm_is n m v hv1, Option.bind_some] at hf
 refine ⟨r, ?_, ?_, ?_⟩
 ·intro k hk
  obtain ⟨d, rfl⟩ : ∃ d, k = 40 + d := ⟨k - 40, by omega⟩
  clear hk
  induction d with
  | zero => exact ⟨r1, r2⟩
  | succ d ih => exact ⟨spec_FormatTerm.mono _ _ _ _ _ ih.1, impl_FormatTerm.mono _ _ _ _ _ ih.2⟩
 ·intro h
  rw [h] at hf
  exact (Option.some.inj hf).symm
 ·cases h : isM n m v
  ·rw [h] at hf
   refine Or.inr ?_
   rw [← Option.some.inj hf]
   intro b hb
   exact absurd hb (by simp)
  ·rw [h] at hf
   obtain ⟨n0, n5, -⟩ := of_decide_eq_true h
   exact fmt_good 40 [] n 0 m v r (by simp) (by omega) n5 hf
def dead (n : Int) (m : Nat) (s : ByteArray) : Prop := (∃ j, j < s.size ∧ ¬ okC (bt s (j : Int))) ∨ ¬ (0 ≤ n ∧ n ≤ 5) ∨ two n ≤ (m : Int)
theorem dead_end {n : Int} {m v : Nat} {s : ByteArray} (h1 : s.toList ≠ [49]) (h0 : s.toList ≠ []) (hv : v < 32) (h : dead n m s) {k : Nat} (hk : 40 ≤ k) :
  ((impl_FormatTerm.f k n (m : Int) (v : Int)).bind fun t => (if t.toList = s.toList then some ((m : Int), (v : Int), true) else some (0, 0, false))) = some (0, 0, false) := by
 obtain ⟨r, a, b, c⟩ := format_any n m v (by omega)
 rw [(a k hk).2]
 simp only [Option.bind_some]
 rw [if_neg]
 intro e
 have hnil : isM n m v = false → False := by
  intro q
  rw [b q] at e
  rw [ByteArray.toList_eq] at e
  exact h0 e.symm
 rcases h with ⟨j, hj, hb⟩ | h | h
 ·rcases c with rfl | c
  ·rw [ByteArray.toList_eq] at e
   exact h1 e.symm
  ·refine hb (bt_ok s ?_ j hj)
   rw [ByteArray.toList_eq, ByteArray.toList_eq] at e
   unfold okB
   rw [← e]
   exact c
 ·exact hnil (decide_eq_false (fun q => h ⟨q.1, q.2.1⟩))
 ·exact hnil (decide_eq_false (fun q => by have := q.2.2.2.1; omega))
theorem pow32 {c : Int} (h : 97 ≤ c ∧ c < 102) : 2 ^ (c - 97).toNat < 2 ^ 5 := Nat.pow_lt_pow_right (by decide) (by omega)
theorem or_le (a b : Nat) : a ≤ a ||| b := Nat.left_le_or
theorem letter_step {c : Int} (h : 97 ≤ c ∧ c < 102) {m : Nat} (hm : m < 2 ^ 5) : bits .or .i64 (m : Int) (shl .i64 1 ((c - 97) % 256)) = ((m ||| 2 ^ (c - 97).toNat : Nat) : Int) ∧ m ||| 2 ^ (c - 97).toNat < 2 ^ 5 := by
 have e : (c - 97) % 256 = (((c - 97).toNat : Nat) : Int) := by omega
 rw [e]
 exact ⟨Shl.or_pow (by omega) (by omega), Nat.or_lt_two_pow hm (pow32 h)⟩
theorem letter_zero {c : Int} (h : 97 ≤ c ∧ c < 102) {v : Nat} (hv : v < 2 ^ 5) : bits .or .i64 (v : Int) (shl .i64 0 ((c - 97) % 256)) = ((v : Nat) : Int) := by
 have e : (c - 97) % 256 = (((c - 97).toNat : Nat) : Int) := by omega
 rw [e, shl_zero_nat]
 have := or_nat v 0 (by omega) (by decide)
 rw [Nat.or_zero] at this
 exact this
theorem impl_dead {n : Int} {s : ByteArray} (h1 : s.toList ≠ [49]) (h0 : s.toList ≠ []) (hs : s.size ≤ 1048576) : ∀ (d i k m v : Nat) (x7 : Int), i + d = s.size → m < 2 ^ 5 → v < 2 ^ 5 → (x7 = 0 ∨ x7 = 1) → d + 41 ≤ k → dead n m s →
  impl_ParseTerm.l0 k n s x7 (s.size : Int) (i : Int) (m : Int) (v : Int) = some (0, 0, false) := by
 intro d
 induction d with
 | zero =>
  intro i k m v x7 hi hm hv h7 hk h
  obtain ⟨k, rfl⟩ : ∃ q, k = q + 1 := ⟨k - 1, by omega⟩
  simp only [impl_ParseTerm.l0]
  rw [if_neg (by omega), if_neg h0]
  exact dead_end h1 h0 (by omega) h (by omega)
 | succ d ih =>
  intro i k m v x7 hi hm hv h7 hk h
  obtain ⟨k, rfl⟩ : ∃ q, k = q + 1 := ⟨k - 1, by omega⟩
  simp only [impl_ParseTerm.l0, impl_isLetter.f]
  rw [if_pos (by omega), if_pos (by omega), if_pos (by omega), w64 (by omega) (by omega)]
  by_cases c33 : bt s (i : Int) = 33
  ·rw [if_pos c33]
   exact ih (i + 1) k m v 0 (by omega) hm hv (Or.inl rfl) (by omega) h
  ·rw [if_neg c33]
   by_cases cl : 97 ≤ bt s (i : Int) ∧ bt s (i : Int) < 102
   ·rw [if_pos cl.1, decide_eq_true cl.2]
    simp only [Option.bind_some, if_true]
    obtain ⟨e1, e2⟩ := letter_step cl hm
    obtain ⟨e3, e4⟩ := letter_step cl hv
    have hd : dead n (m ||| 2 ^ (bt s (i : Int) - 97).toNat) s := by
     rcases h with h | h | h
     ·exact Or.inl h
     ·exact Or.inr (Or.inl h)
     ·refine Or.inr (Or.inr ?_)
      have := or_le m (2 ^ (bt s (i : Int) - 97).toNat)
      omega
    rw [e1]
    rcases h7 with rfl | rfl
    ·rw [letter_zero cl hv]
     exact ih (i + 1) k _ v 1 (by omega) e2 hv (Or.inr rfl) (by omega) hd
    ·rw [e3]
     exact ih (i + 1) k _ _ 1 (by omega) e2 e4 (Or.inr rfl) (by omega) hd
   ·have eb : (if bt s (i : Int) ≥ 97 then some (decide (bt s (i : Int) < 102)) else some false) = some false := by
     by_cases q : bt s (i : Int) ≥ 97
     ·rw [if_pos q, decide_eq_false (fun q2 => cl ⟨q, q2⟩)]
     ·rw [if_neg q]
    rw [eb]
    simp only [Option.bind_some, Bool.false_eq_true, if_false]
    exact ih (i + 1) k m v x7 (by omega) hm hv h7 (by omega) h
theorem parse_loop {n : Int} {s : ByteArray} (hw : -9223372036854775808 ≤ n ∧ n ≤ 9223372036854775807) (h1 : s.toList ≠ [49]) (h0 : s.toList ≠ []) (hs : s.size ≤ 1048576) : ∀ (d i k q m v : Nat) (neg : Bool), i + d = s.size → m < 2 ^ 5 → v < 2 ^ 5 → 3 * d + 50 ≤ k → d + 41 ≤ q →
  ∃ r, spec_ParseTerm.l0 k n s neg (i : Int) (m : Int) (v : Int) = some r ∧ impl_ParseTerm.l0 q n s (if neg then 0 else 1) (s.size : Int) (i : Int) (m : Int) (v : Int) = some r := by
 have hne : (s.toList != ([49] : List UInt8)) = true := bne_iff_ne.mpr h1
 intro d
 induction d with
 | zero =>
  intro i k q m v neg hi hm hv hk hq
  obtain ⟨k, rfl⟩ : ∃ q, k = q + 1 + 1 := ⟨k - 2, by omega⟩
  obtain ⟨q, rfl⟩ : ∃ z, q = z + 1 := ⟨q - 1, by omega⟩
  simp only [spec_ParseTerm.l0, spec_ParseTerm.j1, impl_ParseTerm.l0]
  have e0 : ¬ (i : Int) < (s.size : Int) := by omega
  simp only [if_neg e0, if_neg h0, Bool.false_eq_true, if_false]
  obtain ⟨r, a, -, -⟩ := format_any n m v (by omega)
  rw [(a k (by omega)).1, (a q (by omega)).2]
  simp only [Option.bind_some]
  split
  ·exact ⟨_, rfl, rfl⟩
  ·exact ⟨_, rfl, rfl⟩
 | succ d ih =>
  intro i k q m v neg hi hm hv hk hq
  obtain ⟨k, rfl⟩ : ∃ q, k = q + 1 + 1 + 1 := ⟨k - 3, by omega⟩
  have h7 : (if neg = true then (0 : Int) else 1) = 0 ∨ (if neg = true then (0 : Int) else 1) = 1 := by cases neg <;> simp
  have hd := impl_dead (n := n) h1 h0 hs (d + 1) i q m v (if neg = true then 0 else 1) hi hm hv h7 (by omega)
  obtain ⟨q, rfl⟩ : ∃ z, q = z + 1 := ⟨q - 1, by omega⟩
  have hbt := bt_range s (i : Int)
  simp only [spec_ParseTerm.l0, spec_ParseTerm.j1, spec_ParseTerm.j2]
  rw [if_pos (show (i : Int) < (s.size : Int) by omega), hne, if_pos rfl, if_pos (show 0 ≤ (i : Int) by omega), w64 (x := (i : Int) + 1) (by omega) (by omega), w64 (x := bt s (i : Int)) (by omega) (by omega), w64 (x := bt s (i : Int) - 97) (by omega) (by omega)]
  by_cases c33 : bt s (i : Int) = 33
  ·rw [if_pos c33, impl_ParseTerm.l0, if_pos (show (i : Int) < (s.size : Int) by omega), if_pos (show (i : Int) < (s.size : Int) by omega), if_pos (show 0 ≤ (i : Int) by omega), if_pos (show (i : Int) < (s.size : Int) by omega), if_pos c33, w64 (x := (i : Int) + 1) (by omega) (by omega)]
   have z := ih (i + 1) (k + 1) q m v true (by omega) hm hv (by omega) (by omega)
   rw [show ((i + 1 : Nat) : Int) = (i : Int) + 1 from by omega] at z
   simp only [spec_ParseTerm.l0, hne, if_true] at z
   exact z
  ·rw [if_neg c33, if_pos (show (i : Int) < (s.size : Int) by omega), l1In_is]
   simp only [Option.bind_some]
   by_cases hn : 0 ≤ n ∧ n ≤ 5
   ·rw [decide_eq_true hn]
    simp only [if_true]
    rw [w64 (x := n - 1) (by omega) (by omega), l1In_is]
    simp only [Option.bind_some]
    by_cases hc : 0 ≤ bt s (i : Int) - 97 ∧ bt s (i : Int) - 97 ≤ n - 1
    ·rw [decide_eq_true hc]
     simp only [Bool.not_true, Bool.false_eq_true, if_false]
     have cl : 97 ≤ bt s (i : Int) ∧ bt s (i : Int) < 102 := by omega
     obtain ⟨e1, e2⟩ := letter_step cl hm
     obtain ⟨e3, e4⟩ := letter_step cl hv
     have em : (bt s (i : Int) - 97) % 256 = bt s (i : Int) - 97 := by omega
     rw [if_pos hc.1, impl_ParseTerm.l0, if_pos (show (i : Int) < (s.size : Int) by omega), if_pos (show 0 ≤ (i : Int) by omega), if_pos (show (i : Int) < (s.size : Int) by omega), if_neg c33, w64 (x := (i : Int) + 1) (by omega) (by omega)]
     simp only [impl_isLetter.f]
     rw [if_pos cl.1, decide_eq_true cl.2]
     simp only [Option.bind_some, if_true]
     rw [e1]
     rw [em] at e1 e3
     rw [e1]
     cases neg
     ·simp only [Bool.false_eq_true, if_false]
      rw [em, e3]
      exact ih (i + 1) k q _ _ false (by omega) e2 e4 (by omega) (by omega)
     ·simp only [if_true]
      rw [letter_zero cl hv]
      exact ih (i + 1) k q _ v false (by omega) e2 hv (by omega) (by omega)
    ·rw [decide_eq_false hc]
     simp only [Bool.not_false, if_true]
     refine ⟨_, rfl, ?_⟩
     by_cases cl : 97 ≤ bt s (i : Int) ∧ bt s (i : Int) < 102
     ·obtain ⟨e1, e2⟩ := letter_step cl hm
      obtain ⟨e3, e4⟩ := letter_step cl hv
      have hdd : dead n (m ||| 2 ^ (bt s (i : Int) - 97).toNat) s := by
       refine Or.inr (Or.inr ?_)
       have ho : 2 ^ (bt s (i : Int) - 97).toNat ≤ m ||| 2 ^ (bt s (i : Int) - 97).toNat := Nat.right_le_or
       obtain ⟨N, rfl⟩ := Int.eq_ofNat_of_zero_le hn.1
       rw [two_nat (by omega)]
       have hp : 2 ^ N ≤ 2 ^ (bt s (i : Int) - 97).toNat := Nat.pow_le_pow_right (by decide) (by omega)
       have : 2 ^ N ≤ m ||| 2 ^ (bt s (i : Int) - 97).toNat := Nat.le_trans hp ho
       exact_mod_cast this
      rw [impl_ParseTerm.l0, if_pos (show (i : Int) < (s.size : Int) by omega), if_pos (show 0 ≤ (i : Int) by omega), if_pos (show (i : Int) < (s.size : Int) by omega), if_neg c33, w64 (x := (i : Int) + 1) (by omega) (by omega)]
      simp only [impl_isLetter.f]
      rw [if_pos cl.1, decide_eq_true cl.2]
      simp only [Option.bind_some, if_true]
      rw [e1]
      cases neg
      ·simp only [Bool.false_eq_true, if_false]
       rw [e3]
       exact impl_dead h1 h0 hs d (i + 1) q _ _ 1 (by omega) e2 e4 (Or.inr rfl) (by omega) hdd
      ·simp only [if_true]
       rw [letter_zero cl hv]
       exact impl_dead h1 h0 hs d (i + 1) q _ v 1 (by omega) e2 hv (Or.inr rfl) (by omega) hdd
     ·exact hd (Or.inl ⟨i, by omega, fun z => z.elim (fun z => c33 z) (fun z => cl z)⟩)
   ·rw [decide_eq_false hn]
    simp only [Bool.false_eq_true, if_false, if_true]
    exact ⟨_, rfl, hd (Or.inr (Or.inl hn))⟩
theorem parse_same (n : Int) (s : ByteArray) (hw : -9223372036854775808 ≤ n ∧ n ≤ 9223372036854775807) (hs : s.size ≤ 1048576) : ∃ r, ∀ k, 3 * s.size + 100 ≤ k → spec_ParseTerm.f k n s = some r ∧ impl_ParseTerm.f k n s = some r := by
 obtain ⟨r, r1, r2⟩ : ∃ r, spec_ParseTerm.f (3 * s.size + 100) n s = some r ∧ impl_ParseTerm.f (3 * s.size + 100) n s = some r := by
  unfold spec_ParseTerm.f impl_ParseTerm.f
  by_cases h1 : s.toList = [49]
  ·rw [if_pos h1, if_neg (by rw [h1]; decide)]
   have hne : (s.toList != ([49] : List UInt8)) = false := by rw [h1]; rfl
   obtain ⟨k, hk⟩ : ∃ q, 3 * s.size + 100 = q + 1 + 1 := ⟨3 * s.size + 98, by omega⟩
   obtain ⟨r, a, -, -⟩ := format_any n 0 0 (by omega)
   rw [hk, (a (k + 1 + 1) (by omega)).2]
   simp only [spec_ParseTerm.l0, spec_ParseTerm.j1, hne, Option.bind_some]
   rw [ite_self, if_neg (by decide), if_neg (by rw [h1]; decide), (a k (by omega)).1]
   simp only [Option.bind_some]
   split
   ·exact ⟨_, rfl, rfl⟩
   ·exact ⟨_, rfl, rfl⟩
  ·rw [if_neg h1]
   by_cases h0 : s.toList = []
   ·have hz : s.size = 0 := by
     rw [ByteArray.toList_eq] at h0
     have := congrArg List.length h0
     simpa using this
    rw [hz]
    simp [spec_ParseTerm.l0, spec_ParseTerm.j1, impl_ParseTerm.l0, h0, hz]
   ·exact parse_loop hw h1 h0 (by omega) s.size 0 (3 * s.size + 100) (3 * s.size + 100) 0 0 false (by omega) (by decide) (by decide) (by omega) (by omega)
 refine ⟨r, fun k hk => ?_⟩
 obtain ⟨d, rfl⟩ : ∃ d, k = 3 * s.size + 100 + d := ⟨k - (3 * s.size + 100), by omega⟩
 clear hk
 induction d with
 | zero => exact ⟨r1, r2⟩
 | succ d ih => exact ⟨spec_ParseTerm.mono _ _ _ _ ih.1, impl_ParseTerm.mono _ _ _ _ ih.2⟩
end Go.Proofs.Ytfiejicdlaknnaa.Pap

namespace Go.Proofs.Ytfiejicdlaknnaa.Pmt
set_option linter.unusedVariables false
set_option linter.unusedSimpArgs false
open Go Go.RowKit Go.Proofs.Ytfiejicdlaknnaa.P Go.Proofs.Ytfiejicdlaknnaa.Bits Go.Proofs.Ytfiejicdlaknnaa.Tab Go.Proofs.Ytfiejicdlaknnaa.Shl Go.Proofs.Ytfiejicdlaknnaa.Fmt Go.Proofs.Ytfiejicdlaknnaa.Pap Go.Proofs.Ytfiejicdlaknnaa.Tot Go.Proofs.YtfiejicdlaknnaaW.PrintWords Go.Proofs.YtfiejicdlaknnaaW.PrintLast Go.Proofs.YtfiejicdlaknnaaW.PrintMore
def back (n m v : Int) : Bool := !isM n m v || (match spec_FormatTerm.f 40 n m v with
 | some r => decide (r.size ≤ 20) && (match impl_ParseTerm.f 70 n r with
  | some (a, b, c) => a == m && b == v && c
  | none => false)
 | none => false)
theorem back0 : ∀ m v : Fin 1, back 0 (m.val : Int) (v.val : Int) = true := by decide +kernel
theorem back1 : ∀ m v : Fin 2, back 1 (m.val : Int) (v.val : Int) = true := by decide +kernel
theorem back2 : ∀ m v : Fin 4, back 2 (m.val : Int) (v.val : Int) = true := by decide +kernel
theorem back3 : ∀ m v : Fin 8, back 3 (m.val : Int) (v.val : Int) = true := by decide +kernel
theorem back4 : ∀ m v : Fin 16, back 4 (m.val : Int) (v.val : Int) = true := by decide +kernel
theorem back5 : ∀ m v : Fin 32, back 5 (m.val : Int) (v.val : Int) = true := by decide +kernel
theorem back_at {N a u : Nat} (hN : N ≤ 5) (ha : a < 2 ^ N) (hu : u ≤ a) : back (N : Int) (a : Int) (u : Int) = true := by
 obtain rfl | rfl | rfl | rfl | rfl | rfl : N = 0 ∨ N = 1 ∨ N = 2 ∨ N = 3 ∨ N = 4 ∨ N = 5 := by omega
 ·exact back0 ⟨a, ha⟩ ⟨u, by omega⟩
 ·exact back1 ⟨a, ha⟩ ⟨u, by omega⟩
 ·exact back2 ⟨a, ha⟩ ⟨u, by omega⟩
 ·exact back3 ⟨a, ha⟩ ⟨u, by omega⟩
 ·exact back4 ⟨a, ha⟩ ⟨u, by omega⟩
 ·exact back5 ⟨a, ha⟩ ⟨u, by omega⟩
theorem text_law (n m v : Int) (hv1 : v ≤ 9223372036854775807) : ∃ r x0 x1, (∀ k, 40 ≤ k → spec_FormatTerm.f k n m v = some r ∧ impl_FormatTerm.f k n m v = some r) ∧ r.size ≤ 20 ∧ (∀ k, 70 ≤ k → impl_ParseTerm.f k n r = some (x0, x1, isM n m v)) ∧ (isM n m v = true → x0 = m ∧ x1 = v) := by
 obtain ⟨r, r1, r2, -⟩ := format_any n m v hv1
 cases h : isM n m v
 ·obtain rfl := r2 h
  refine ⟨_, 0, 0, r1, by decide, fun k hk => ?_, fun q => by cases q⟩
  obtain ⟨k, rfl⟩ : ∃ q, k = q + 1 := ⟨k - 1, by omega⟩
  have h0 : (⟨#[]⟩ : ByteArray).toList = [] := by decide +kernel
  have hz : (⟨#[]⟩ : ByteArray).size = 0 := by decide +kernel
  unfold impl_ParseTerm.f
  simp [impl_ParseTerm.l0, h0, hz]
 ·obtain ⟨N, a, u, rfl, hN, rfl, rfl, ha, _, _, hs⟩ := isM_nums h
  have hle : u &&& a ≤ a := Nat.and_le_right
  have hb := back_at hN ha (show u ≤ a by omega)
  unfold back at hb
  rw [h, (r1 40 (Nat.le_refl _)).1] at hb
  simp only [Bool.not_true, Bool.false_or, Bool.and_eq_true, decide_eq_true_eq] at hb
  obtain ⟨hsz, hb⟩ := hb
  cases hp : impl_ParseTerm.f 70 (N : Int) r with
  | none => rw [hp] at hb; cases hb
  | some x =>
   obtain ⟨x0, x1, c⟩ := x
   rw [hp] at hb
   simp only [Bool.and_eq_true, beq_iff_eq] at hb
   obtain ⟨⟨q0, q1⟩, rfl⟩ := hb
   refine ⟨r, x0, x1, r1, hsz, fun k hk => ?_, fun _ => ⟨q0, q1⟩⟩
   obtain ⟨d, rfl⟩ : ∃ d, k = 70 + d := ⟨k - 70, by omega⟩
   clear hk
   induction d with
   | zero => exact hp
   | succ d ih => exact impl_ParseTerm.mono _ _ _ _ ih
end Go.Proofs.Ytfiejicdlaknnaa.Pmt
