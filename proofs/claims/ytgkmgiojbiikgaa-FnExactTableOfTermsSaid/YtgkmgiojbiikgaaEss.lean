/- Essential prime terms: the reference's and the program's tests of one place answer the same. Conditions: the bounds that stand in each. -/
import Derived.Test.YtgkmgiojbiikgaaPrm
import Derived.Test.YtgkmgiojbiikgaaGmt
import Derived.Test.YtgkmgiojbiikgaaGmt
import Derived.Test.YtgkmgiojbiikgaaPb0
import Derived.Test.YtgkmgiojbiikgaaPb1
import Derived.Test.YtgkmgiojbiikgaaPz3
namespace Go.Proofs.Ytgkmgiojbiikgaa.Ess
set_option linter.unusedVariables false
set_option linter.unusedSimpArgs false
open Go Go.RowKit Go.Proofs.Ytgkmgiojbiikgaa.P Go.Proofs.Ytgkmgiojbiikgaa.Bits Go.Proofs.Ytgkmgiojbiikgaa.Tab Go.Proofs.Ytgkmgiojbiikgaa.Shl Go.Proofs.Ytgkmgiojbiikgaa.Imp Go.Proofs.Ytgkmgiojbiikgaa.Pri Go.Proofs.Ytgkmgiojbiikgaa.Prm Go.Proofs.YtgkmgiojbiikgaaW.PrintWords Go.Proofs.YtgkmgiojbiikgaaW.PrintLast Go.Proofs.YtgkmgiojbiikgaaW.PrintMore

theorem prime_nums {n W : Nat} {t : S28} (hn : n ≤ 5) (h : t ∈ primesL n W) : ∃ a u : Nat, t = ⟨(a : Int), (u : Int)⟩ ∧ a < 2 ^ n ∧ a < 32 ∧ u < 32 ∧ u &&& a = u := by
  obtain ⟨a, u, h1, h2, _, rfl⟩ := (primesL_mem n W t).mp h
  have := pow_le_32 hn
  have hle : u &&& a ≤ a := Nat.and_le_right
  exact ⟨a, u, rfl, h1, by omega, by omega, h2⟩

theorem holdsB_is {n W : Nat} {t : S28} (hn : n ≤ 5) (h : t ∈ primesL n W) {x : Nat} (hx : x < 32) : holdsB (x : Int) t = hold t x := by
  obtain ⟨a, u, rfl, h1, h2, h3, h4⟩ := prime_nums hn h
  unfold holdsB hold
  rw [and_int (by omega) (by omega) (by simp) (by simp; omega)]
  simp only [Int.toNat_natCast]
  rw [Bool.eq_iff_iff, beq_iff_eq, decide_eq_true_eq]
  omega

theorem word_is {n W : Nat} {t : S28} (hn : n ≤ 5) (h : t ∈ primesL n W) {k : Nat} (hk : 32 < k) : spec_l6Word.f k (n : Int) t.f0 t.f1 = some ((wordOf (hold t) (2 ^ n) : Nat) : Int) := by
  obtain ⟨a, u, rfl, h1, h2, h3, h4⟩ := prime_nums hn h
  have := pow_le_32 hn
  have e := word_loop n a u hn h2 h3 (2 ^ n) 0 k (by omega) (by omega)
  have e' : spec_l6Word.f k (n : Int) (a : Int) (u : Int) = some ((wt a u (2 ^ n) : Nat) : Int) := e
  rw [e']
  unfold wt
  rfl

def rest (l : List S28) (i x : Nat) : Nat → Bool
  | 0 => true
  | j + 1 => rest l i x j && (decide (j = i) || !hold (rd_T28 l (j : Int)) x)

theorem rest_iff (l : List S28) (i x : Nat) : ∀ j, rest l i x j = true ↔ ∀ k, k < j → k ≠ i → hold (rd_T28 l (k : Int)) x = false
  | 0 => by simp [rest]
  | j + 1 => by
    simp only [rest, Bool.and_eq_true, rest_iff l i x j, Bool.or_eq_true, decide_eq_true_eq, Bool.not_eq_true']
    constructor
    · rintro ⟨h1, h2⟩ k a b
      by_cases e : k = j
      · subst e
        rcases h2 with h2 | h2
        · exact absurd h2 b
        · exact h2
      · exact h1 k (by omega) b
    · intro h
      refine ⟨fun k a b => h k (by omega) b, ?_⟩
      by_cases e : j = i
      · exact Or.inl e
      · exact Or.inr (h j (by omega) e)

theorem rd_at {l : List S28} {k : Nat} (h : k < l.length) : rd_T28 l (k : Int) = l[k] := by
  unfold rd_T28
  rw [Int.toNat_natCast, List.getD_eq_getElem?_getD, List.getElem?_eq_getElem h]
  rfl

theorem any_cut (l : List S28) (i : Nat) (p : S28 → Bool) : ((l.take i ++ l.drop (i + 1)).any p) = true ↔ ∃ k, k < l.length ∧ k ≠ i ∧ p (rd_T28 l (k : Int)) = true := by
  rw [List.any_append, Bool.or_eq_true, List.any_eq_true, List.any_eq_true]
  constructor
  · rintro (⟨t, ht, hp⟩ | ⟨t, ht, hp⟩)
    · obtain ⟨k, hk, rfl⟩ := List.mem_iff_getElem.mp ht
      have hk' : k < i ∧ k < l.length := by rw [List.length_take] at hk; omega
      refine ⟨k, hk'.2, by omega, ?_⟩
      rw [rd_at hk'.2]
      simpa using hp
    · obtain ⟨k, hk, rfl⟩ := List.mem_iff_getElem.mp ht
      have hk' : i + 1 + k < l.length := by rw [List.length_drop] at hk; omega
      refine ⟨i + 1 + k, hk', by omega, ?_⟩
      rw [rd_at hk']
      simpa using hp
  · rintro ⟨k, hk, hne, hp⟩
    rw [rd_at hk] at hp
    rcases Nat.lt_or_gt_of_ne hne with h | h
    · refine Or.inl ⟨l[k], ?_, hp⟩
      rw [List.mem_iff_getElem]
      exact ⟨k, by rw [List.length_take]; omega, by simp⟩
    · refine Or.inr ⟨l[k], ?_, hp⟩
      rw [List.mem_iff_getElem]
      refine ⟨k - (i + 1), by rw [List.length_drop]; omega, ?_⟩
      simp only [List.getElem_drop]
      congr 1
      omega

theorem take_word {q a : Nat → Bool} {M : Nat} : wordOf q M - (wordOf q M &&& wordOf a M) = wordOf (fun x => q x && !a x) M := by
  rw [sub_and]
  apply Nat.eq_of_testBit_eq
  intro i
  simp only [Nat.testBit_xor, Nat.testBit_and, testBit_wordOf]
  cases decide (i < M) <;> cases q i <;> cases a i <;> rfl

def E (n : Nat) (l : List S28) (i : Nat) : Prop := ∃ x, x < 2 ^ n ∧ (hold (rd_T28 l (i : Int)) x && rest l i x l.length) = true

theorem spec_inner (n W : Nat) (hn : n ≤ 5) (l : List S28) (hl : l = primesL n W) (w : Int) (i : Nat) (hi : i < l.length) (xs : List S28) : ∀ (d j k : Nat), j + d = l.length → d + 34 < k →
    ∃ k', k = k' + d + 1 ∧ spec_EssentialPrimes.l1 k xs l (i : Int) ((wordOf (fun x => hold (rd_T28 l (i : Int)) x && rest l i x j) (2 ^ n) : Nat) : Int) (j : Int) (n : Int) w =
      (if ((wordOf (fun x => hold (rd_T28 l (i : Int)) x && rest l i x l.length) (2 ^ n) : Nat) : Int) > 0 then (if 0 ≤ (i : Int) then (if (i : Int) < (l.length : Int) then (if xs.length < 8796093022208 then (spec_EssentialPrimes.l0 k' (xs ++ [(⟨(rd_T28 l (i : Int)).f0, (rd_T28 l (i : Int)).f1⟩ : S28)]) l (wrap64 ((i : Int) + 1)) (n : Int) w) else (none)) else (none)) else (none)) else (spec_EssentialPrimes.l0 k' xs l (wrap64 ((i : Int) + 1)) (n : Int) w)) := by
  have h32 := pow_le_32 hn
  have hlen : l.length ≤ 1056 := by rw [hl]; exact primesL_len W hn
  intro d
  induction d with
  | zero =>
    intro j k hj hk
    obtain ⟨k, rfl⟩ : ∃ q, k = q + 1 := ⟨k - 1, by omega⟩
    refine ⟨k, by omega, ?_⟩
    obtain rfl : j = l.length := by omega
    simp only [spec_EssentialPrimes.l1]
    rw [if_neg (by omega)]
  | succ d ih =>
    intro j k hj hk
    obtain ⟨k, rfl⟩ : ∃ q, k = q + 1 := ⟨k - 1, by omega⟩
    obtain ⟨k', hk', ih'⟩ := ih (j + 1) k (by omega) (by omega)
    refine ⟨k', by omega, ?_⟩
    rw [← ih']
    simp only [spec_EssentialPrimes.l1]
    rw [if_pos (by omega), show wrap64 ((j : Int) + 1) = ((j + 1 : Nat) : Int) from by rw [w64 (by omega) (by omega)]; omega]
    by_cases e : j = i
    · rw [if_pos (by omega)]
      have : (fun x => hold (rd_T28 l (i : Int)) x && rest l i x (j + 1)) = (fun x => hold (rd_T28 l (i : Int)) x && rest l i x j) := by
        funext x
        simp [rest, e]
      rw [this]
    · have hm : rd_T28 l (j : Int) ∈ primesL n W := by rw [← hl]; exact rd_mem (by omega)
      rw [if_neg (by omega), if_pos (by omega), word_is hn hm (by omega)]
      simp only [Option.bind_some]
      have b1 := word63 (fun x => hold (rd_T28 l (i : Int)) x && rest l i x j) (m := 2 ^ n) (by omega)
      have b2 := word63 (hold (rd_T28 l (j : Int))) (m := 2 ^ n) (by omega)
      have hle : wordOf (fun x => hold (rd_T28 l (i : Int)) x && rest l i x j) (2 ^ n) &&& wordOf (hold (rd_T28 l (j : Int))) (2 ^ n) ≤ wordOf (fun x => hold (rd_T28 l (i : Int)) x && rest l i x j) (2 ^ n) := Nat.and_le_left
      rw [p63] at b1 b2
      rw [and_nat _ _ (by rw [p63]; omega) (by rw [p63]; omega)]
      have ew : (fun x => hold (rd_T28 l (i : Int)) x && rest l i x (j + 1)) = (fun x => (hold (rd_T28 l (i : Int)) x && rest l i x j) && !hold (rd_T28 l (j : Int)) x) := by
        funext x
        simp only [rest, decide_eq_false e, Bool.false_or, Bool.and_assoc]
      rw [ew, ← take_word, w64 (by omega) (by omega)]
      congr 1
      omega

theorem rest_any {n W : Nat} (hn : n ≤ 5) {l : List S28} (hl : l = primesL n W) (i x : Nat) (hx : x < 32) : ((l.take i ++ l.drop (i + 1)).any (holdsB (x : Int))) = !rest l i x l.length := by
  rw [Bool.eq_iff_iff, any_cut, Bool.not_eq_true', ← Bool.not_eq_true, rest_iff]
  constructor
  · rintro ⟨k, h1, h2, h3⟩ q
    rw [holdsB_is hn (by rw [← hl]; exact rd_mem h1) hx, q k h1 h2] at h3
    exact absurd h3 (by decide)
  · intro q
    apply Classical.byContradiction
    intro hno
    apply q
    intro k h1 h2
    cases hb : hold (rd_T28 l (k : Int)) x
    · rfl
    · refine absurd ⟨k, h1, h2, ?_⟩ hno
      rw [holdsB_is hn (by rw [← hl]; exact rd_mem h1) hx]
      exact hb

theorem differs_iff {n W : Nat} (hn : n ≤ 5) (hW : W < 2 ^ 2 ^ n) {l : List S28} (hl : l = primesL n W) (i : Nat) (hi : i < l.length) :
    (wordOf (fun x => (l.take i ++ l.drop (i + 1)).any (holdsB (x : Int))) (2 ^ n) ≠ W) ↔ E n l i := by
  have h32 := pow_le_32 hn
  constructor
  · intro h
    apply Classical.byContradiction
    intro hno
    apply h
    rw [← wordOf_testBit W (2 ^ n) hW]
    apply wordOf_congr
    intro x hx
    show ((l.take i ++ l.drop (i + 1)).any (holdsB (x : Int))) = W.testBit x
    rw [rest_any hn hl i x (by omega), ← any_primes hx, ← hl, Bool.eq_iff_iff, Bool.not_eq_true', List.any_eq_true]
    constructor
    · intro hr
      apply Classical.byContradiction
      intro hnone
      have : rest l i x l.length = true := by
        rw [rest_iff]
        intro k hk _
        cases hb : hold (rd_T28 l (k : Int)) x
        · rfl
        · exact absurd ⟨_, rd_mem hk, hb⟩ hnone
      rw [this] at hr
      exact absurd hr (by decide)
    · rintro ⟨t, ht, hh⟩
      rw [← Bool.not_eq_true]
      intro hr
      obtain ⟨k, hk, rfl⟩ := List.mem_iff_getElem.mp ht
      rw [← rd_at hk] at hh
      by_cases e : k = i
      · subst e
        exact hno ⟨x, hx, by rw [hh, hr]; rfl⟩
      · rw [(rest_iff l i x l.length).mp hr k hk e] at hh
        exact absurd hh (by decide)
  · rintro ⟨x, hx, hE⟩ h
    rw [Bool.and_eq_true] at hE
    have hb : W.testBit x = true := hold_in (W := W) (by rw [← hl]; exact rd_mem hi) hx hE.1
    rw [← h, testBit_wordOf, rest_any hn hl i x (by omega), hE.2] at hb
    simp at hb

theorem ess_loop {n W : Nat} (hn : n ≤ 5) (hW : W < 2 ^ 2 ^ n) {l : List S28} (hl : l = primesL n W) : ∀ (d i k q : Nat) (xs : List S28), i + d = l.length → xs.length ≤ i → 1200 * d + 1 ≤ k → d < q →
    ∃ r, r.1.length ≤ 1100 ∧ spec_EssentialPrimes.l0 k xs l (i : Int) (n : Int) (W : Int) = some r ∧ impl_EssentialPrimes.l0 q l xs l (l.length : Int) (i : Int) (n : Int) (W : Int) = some r := by
  have h32 := pow_le_32 hn
  have hlen : l.length ≤ 1056 := by rw [hl]; exact primesL_len W hn
  have hW2 : W < 2 ^ 32 := Nat.lt_of_lt_of_le hW (Nat.pow_le_pow_right (by decide) h32)
  intro d
  induction d with
  | zero =>
    intro i k q xs hi hx hk hq
    obtain ⟨k, rfl⟩ : ∃ z, k = z + 1 := ⟨k - 1, by omega⟩
    obtain ⟨q, rfl⟩ : ∃ z, q = z + 1 := ⟨q - 1, by omega⟩
    simp only [spec_EssentialPrimes.l0, impl_EssentialPrimes.l0]
    rw [if_neg (by omega), if_neg (by omega)]
    exact ⟨(xs, true), by simp; omega, rfl, rfl⟩
  | succ d ih =>
    intro i k q xs hi hx hk hq
    obtain ⟨k, rfl⟩ : ∃ z, k = z + 1 := ⟨k - 1, by omega⟩
    obtain ⟨q, rfl⟩ : ∃ z, q = z + 1 := ⟨q - 1, by omega⟩
    have hil : i < l.length := by omega
    have hm : rd_T28 l (i : Int) ∈ primesL n W := by rw [← hl]; exact rd_mem hil
    have es : spec_EssentialPrimes.l0 (k + 1) xs l (i : Int) (n : Int) (W : Int) = spec_EssentialPrimes.l1 k xs l (i : Int) ((wordOf (fun x => hold (rd_T28 l (i : Int)) x && rest l i x 0) (2 ^ n) : Nat) : Int) ((0 : Nat) : Int) (n : Int) (W : Int) := by
      simp only [spec_EssentialPrimes.l0]
      rw [if_pos (by omega), if_pos (by omega), word_is hn hm (by omega)]
      have : (fun x => hold (rd_T28 l (i : Int)) x && rest l i x 0) = hold (rd_T28 l (i : Int)) := by
        funext x
        simp [rest]
      rw [this]
      rfl
    obtain ⟨k', hk', e1⟩ := spec_inner n W hn l hl (W : Int) i hil xs l.length 0 k (by omega) (by omega)
    have hw1 : Aside0 (wrap64 ((i : Int) + 1) = ((i + 1 : Nat) : Int)) := ⟨by rw [w64 (by omega) (by omega)]; omega⟩
    rw [hw1.out] at e1
    have ei : impl_EssentialPrimes.l0 (q + 1) l xs l (l.length : Int) (i : Int) (n : Int) (W : Int) = (if (!(((wordOf (fun x => (l.take i ++ l.drop (i + 1)).any (holdsB (x : Int))) (2 ^ n) : Nat) : Int) == (W : Int))) = true then impl_EssentialPrimes.l0 q l (xs ++ [(⟨(rd_T28 l (i : Int)).f0, (rd_T28 l (i : Int)).f1⟩ : S28)]) l (l.length : Int) ((i + 1 : Nat) : Int) (n : Int) (W : Int) else impl_EssentialPrimes.l0 q l xs l (l.length : Int) ((i + 1 : Nat) : Int) (n : Int) (W : Int)) := by
      have ec : impl_Term_86.f (l.take i) = some (l.take i) := by
        unfold impl_Term_86.f
        rw [if_pos (by rw [List.length_take]; omega)]
      have esum : impl_sumOf.f (n : Int) (l.take i ++ l.drop (i + 1)) = some ((n : Int), ((wordOf (fun x => (l.take i ++ l.drop (i + 1)).any (holdsB (x : Int))) (2 ^ n) : Nat) : Int)) := by
        unfold impl_sumOf.f
        rw [if_pos ⟨by omega, by omega, by rw [List.length_append, List.length_take, List.length_drop]; omega⟩, Int.toNat_natCast]
      generalize ((wordOf (fun x => (l.take i ++ l.drop (i + 1)).any (holdsB (x : Int))) (2 ^ n) : Nat) : Int) = wd at esum ⊢
      simp only [impl_EssentialPrimes.l0]
      rw [if_pos (show (i : Int) < (l.length : Int) by omega), if_pos (show 0 ≤ (i : Int) by omega), if_pos (show (i : Int) < (l.length : Int) by omega), if_pos (show (i : Int) ≤ (l.length : Int) by omega), hw1.out]
      simp only [Int.toNat_natCast]
      rw [ec]
      simp only [Option.bind_some]
      rw [if_pos (show 0 ≤ ((i + 1 : Nat) : Int) by omega), if_pos (show ((i + 1 : Nat) : Int) ≤ (l.length : Int) by omega), if_pos (show (l.take i).length + (l.drop (i + 1)).length < 8796093022208 by rw [List.length_take, List.length_drop]; omega)]
      rw [esum]
      simp only [Option.bind_some, beq_self_eq_true, Bool.not_true, Bool.false_or]
      rw [if_pos (show xs.length < 8796093022208 by omega)]
    have hd := differs_iff hn hW hl i hil
    have hp := wordOf_pos (fun x => hold (rd_T28 l (i : Int)) x && rest l i x l.length) (2 ^ n)
    rw [es, e1, ei]
    clear es e1 ei
    generalize hA : wordOf (fun x => hold (rd_T28 l (i : Int)) x && rest l i x l.length) (2 ^ n) = wa at hp ⊢
    generalize hB : wordOf (fun x => (l.take i ++ l.drop (i + 1)).any (holdsB (x : Int))) (2 ^ n) = wb at hd ⊢
    clear hA hB
    by_cases hE : E n l i
    · have h1 := hd.mpr hE
      have h2 : 0 < wa := hp.mpr hE
      have hne : (!((wb : Int) == (W : Int))) = true := by
        rw [Bool.not_eq_true', beq_eq_false_iff_ne]
        omega
      rw [if_pos (show (wa : Int) > 0 by omega), if_pos (show 0 ≤ (i : Int) by omega), if_pos (show (i : Int) < (l.length : Int) by omega), if_pos (show xs.length < 8796093022208 by omega), if_pos hne]
      exact ih (i + 1) k' q _ (by omega) (by simp; omega) (by omega) (by omega)
    · have h1 : wb = W := Classical.byContradiction fun q => hE (hd.mp q)
      have h2 : ¬ 0 < wa := fun q => hE (hp.mp q)
      have hne : ¬ (!((wb : Int) == (W : Int))) = true := by
        rw [h1, beq_self_eq_true]
        decide
      rw [if_neg (show ¬ (wa : Int) > 0 by omega), if_neg hne]
      exact ih (i + 1) k' q _ (by omega) (by omega) (by omega) (by omega)

theorem essential_same (n w : Int) : ∃ r : List S28 × Bool, r.1.length ≤ 1100 ∧ ∀ k, 1400000 ≤ k → spec_EssentialPrimes.f k n w = some r ∧ impl_EssentialPrimes.f k n w = some r := by
  cases h : isT n w
  · refine ⟨([], false), by simp, ?_⟩
    intro k _
    unfold spec_EssentialPrimes.f impl_EssentialPrimes.f
    simp [spec_IsTable_is, impl_IsTable_is, h]
  · obtain ⟨h0, h5, hw, hl⟩ := isT_yes h
    obtain ⟨N, rfl⟩ := Int.eq_ofNat_of_zero_le h0
    obtain ⟨W, rfl⟩ := Int.eq_ofNat_of_zero_le hw
    have hW : W < 2 ^ 2 ^ N := by
      rw [lim_two h0 h5, two_nat (by omega), Int.toNat_natCast] at hl
      have e : ((2 : Int) ^ (2 ^ N)) = ((2 ^ 2 ^ N : Nat) : Int) := by push_cast; rfl
      rw [e] at hl
      omega
    have hlen : (primesL N W).length ≤ 1056 := primesL_len W (by omega)
    obtain ⟨r, r0, r1, r2⟩ := ess_loop (n := N) (by omega) hW rfl (primesL N W).length 0 1400000 1400000 [] (by omega) (by simp) (by omega) (by omega)
    refine ⟨r, r0, ?_⟩
    intro k hk
    obtain ⟨d, rfl⟩ : ∃ d, k = 1400000 + d := ⟨k - 1400000, by omega⟩
    have hh : spec_EssentialPrimes.l0 (1400000 + d) [] (primesL N W) ((0 : Nat) : Int) (N : Int) (W : Int) = some r ∧ impl_EssentialPrimes.l0 (1400000 + d) (primesL N W) [] (primesL N W) ((primesL N W).length : Int) ((0 : Nat) : Int) (N : Int) (W : Int) = some r := by
      clear hk
      induction d with
      | zero => exact ⟨r1, r2⟩
      | succ d ih => exact ⟨(spec_EssentialPrimes.mono_l _).1 _ _ _ _ _ _ ih.1, impl_EssentialPrimes.mono_l _ _ _ _ _ _ _ _ _ ih.2⟩
    have hp := primes_are h (k := 1400000 + d) (by omega)
    rw [Int.toNat_natCast] at hp
    unfold spec_EssentialPrimes.f impl_EssentialPrimes.f
    simp only [spec_IsTable_is, impl_IsTable_is, h, Option.bind_some, if_true, hp.1, hp.2]
    exact hh
end Go.Proofs.Ytgkmgiojbiikgaa.Ess
