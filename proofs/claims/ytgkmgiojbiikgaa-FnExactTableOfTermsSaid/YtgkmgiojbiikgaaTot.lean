/- Sums of terms: the reference's and the program's TableOfTerms answer the same. Conditions: the bounds that stand in each. -/
import Derived.Test.YtgkmgiojbiikgaaEss
import Derived.Test.YtgkmgiojbiikgaaG1t
import Derived.Test.YtgkmgiojbiikgaaGmt
import Derived.Test.YtgkmgiojbiikgaaPm1
import Derived.Test.YtgkmgiojbiikgaaPv2
import Derived.Test.YtgkmgiojbiikgaaPy1
import Derived.Test.YtgkmgiojbiikgaaPz3
import Derived.Test.YtgkmgiojbiikgaaPz4
namespace Go.Proofs.Ytgkmgiojbiikgaa.Tot
set_option linter.unusedVariables false
set_option linter.unusedSimpArgs false
open Go Go.RowKit Go.Proofs.Ytgkmgiojbiikgaa.P Go.Proofs.Ytgkmgiojbiikgaa.Bits Go.Proofs.Ytgkmgiojbiikgaa.Tab Go.Proofs.Ytgkmgiojbiikgaa.Shl Go.Proofs.Ytgkmgiojbiikgaa.Imp Go.Proofs.Ytgkmgiojbiikgaa.Pri Go.Proofs.Ytgkmgiojbiikgaa.Prm Go.Proofs.Ytgkmgiojbiikgaa.Ess Go.Proofs.YtgkmgiojbiikgaaW.PrintWords Go.Proofs.YtgkmgiojbiikgaaW.PrintLast Go.Proofs.YtgkmgiojbiikgaaW.PrintMore

theorem isM_nums {n m v : Int} (h : isM n m v = true) : ∃ N a u : Nat, n = (N : Int) ∧ N ≤ 5 ∧ m = (a : Int) ∧ v = (u : Int) ∧ a < 2 ^ N ∧ a < 32 ∧ u < 32 ∧ u &&& a = u := by
  have h' := of_decide_eq_true h
  obtain ⟨h0, h5, m0, m1, v0, v1, hs⟩ := h'
  obtain ⟨N, rfl⟩ := Int.eq_ofNat_of_zero_le h0
  obtain ⟨a, rfl⟩ := Int.eq_ofNat_of_zero_le m0
  obtain ⟨u, rfl⟩ := Int.eq_ofNat_of_zero_le v0
  rw [two_nat (by omega)] at m1
  have := pow_le_32 (show N ≤ 5 by omega)
  simp only [Int.toNat_natCast] at hs
  exact ⟨N, a, u, rfl, by omega, rfl, rfl, by omega, by omega, by omega, hs⟩

theorem word_isM {n : Nat} {t : S28} (h : isM (n : Int) t.f0 t.f1 = true) {k : Nat} (hk : 32 < k) : spec_l6Word.f k (n : Int) t.f0 t.f1 = some ((wordOf (hold t) (2 ^ n) : Nat) : Int) := by
  obtain ⟨N, a, u, hN, h5, ha, hu, h1, h2, h3, h4⟩ := isM_nums h
  obtain rfl : n = N := by omega
  have := pow_le_32 h5
  have e := word_loop n a u h5 h2 h3 (2 ^ n) 0 k (by omega) (by omega)
  have e' : spec_l6Word.f k (n : Int) (a : Int) (u : Int) = some ((wt a u (2 ^ n) : Nat) : Int) := e
  rw [ha, hu, e']
  unfold wt
  congr 3
  funext x
  unfold hold
  rw [ha, hu]
  rfl

theorem holdsB_isM {n : Nat} {t : S28} (h : isM (n : Int) t.f0 t.f1 = true) {x : Nat} (hx : x < 32) : holdsB (x : Int) t = hold t x := by
  obtain ⟨N, a, u, hN, h5, ha, hu, h1, h2, h3, h4⟩ := isM_nums h
  unfold holdsB hold
  rw [ha, hu, and_int (by omega) (by omega) (by omega) (by omega)]
  simp only [Int.toNat_natCast]
  rw [Bool.eq_iff_iff, beq_iff_eq, decide_eq_true_eq]
  omega

def good (n : Int) (l : List S28) : Bool := l.all fun t => isM n t.f0 t.f1
def sumW (l : List S28) (M : Nat) : Nat := wordOf (fun x => l.any fun t => hold t x) M

theorem sumW_snoc (l : List S28) (t : S28) (M : Nat) : sumW (l ++ [t]) M = sumW l M ||| wordOf (hold t) M := by
  apply Nat.eq_of_testBit_eq
  intro i
  unfold sumW
  rw [Nat.testBit_or, testBit_wordOf, testBit_wordOf, testBit_wordOf]
  simp only [List.any_append, List.any_cons, List.any_nil, Bool.or_false]
  cases decide (i < M) <;> rfl

theorem good_at {n : Int} {l : List S28} (h : good n l = true) {i : Nat} (hi : i < l.length) : isM n (rd_T28 l (i : Int)).f0 (rd_T28 l (i : Int)).f1 = true :=
  List.all_eq_true.mp h _ (rd_mem hi)

theorem spec_tot_yes {n : Nat} (hn : n ≤ 5) (l : List S28) (hl : l.length ≤ 1048576) (hg : good (n : Int) l = true) : ∀ (d i k : Nat), i + d = l.length → d + 34 < k →
    spec_TableOfTerms.l0 k (n : Int) l ((sumW (l.take i) (2 ^ n) : Nat) : Int) (i : Int) = some ((n : Int), ((sumW l (2 ^ n) : Nat) : Int), true) := by
  have h32 := pow_le_32 hn
  intro d
  induction d with
  | zero =>
    intro i k hi hk
    obtain ⟨k, rfl⟩ : ∃ q, k = q + 1 := ⟨k - 1, by omega⟩
    obtain rfl : i = l.length := by omega
    simp only [spec_TableOfTerms.l0]
    rw [if_neg (by omega), l1In_is]
    have e : decide (0 ≤ (n : Int) ∧ (n : Int) ≤ 5) = true := decide_eq_true (by omega)
    rw [e]
    simp [List.take_length]
  | succ d ih =>
    intro i k hi hk
    obtain ⟨k, rfl⟩ : ∃ q, k = q + 1 := ⟨k - 1, by omega⟩
    have hil : i < l.length := by omega
    have hm := good_at hg hil
    have ih' := ih (i + 1) k (by omega) (by omega)
    have et : l.take (i + 1) = l.take i ++ [rd_T28 l (i : Int)] := by rw [rd_at hil, List.take_succ_eq_append_getElem hil]
    have b1 : sumW (l.take i) (2 ^ n) < 2 ^ 63 := word63 (fun x => (l.take i).any fun t => hold t x) (m := 2 ^ n) (by omega)
    have b2 := word63 (hold (rd_T28 l (i : Int))) (m := 2 ^ n) (by omega)
    simp only [spec_TableOfTerms.l0]
    rw [if_pos (show (i : Int) < (l.length : Int) by omega), if_pos (show 0 ≤ (i : Int) by omega), spec_IsTerm_is, hm]
    simp only [Option.bind_some, if_true]
    rw [word_isM hm (by omega)]
    simp only [Option.bind_some]
    rw [w64 (by omega) (by omega), or_nat _ _ b1 b2]
    rw [et, sumW_snoc, show ((i + 1 : Nat) : Int) = (i : Int) + 1 from by omega] at ih'
    exact ih'

theorem spec_tot_no {n : Int} (l : List S28) (hl : l.length ≤ 1048576) (hg : (decide (0 ≤ n ∧ n ≤ 5) && good n l) = false) : ∀ (d i k : Nat) (w : Int), i + d = l.length → (∀ j, j < i → isM n (rd_T28 l (j : Int)).f0 (rd_T28 l (j : Int)).f1 = true) → d + 34 < k →
    spec_TableOfTerms.l0 k n l w (i : Int) = some (0, 0, false) := by
  intro d
  induction d with
  | zero =>
    intro i k w hi hj hk
    obtain ⟨k, rfl⟩ : ∃ q, k = q + 1 := ⟨k - 1, by omega⟩
    obtain rfl : i = l.length := by omega
    simp only [spec_TableOfTerms.l0]
    rw [if_neg (by omega), l1In_is]
    have hgood : good n l = true := by
      refine List.all_eq_true.mpr fun t ht => ?_
      obtain ⟨j, hjl, rfl⟩ := List.mem_iff_getElem.mp ht
      have := hj j hjl
      rwa [rd_at hjl] at this
    rw [hgood, Bool.and_true] at hg
    rw [hg]
    simp
  | succ d ih =>
    intro i k w hi hj hk
    obtain ⟨k, rfl⟩ : ∃ q, k = q + 1 := ⟨k - 1, by omega⟩
    have hil : i < l.length := by omega
    simp only [spec_TableOfTerms.l0]
    rw [if_pos (show (i : Int) < (l.length : Int) by omega), if_pos (show 0 ≤ (i : Int) by omega), spec_IsTerm_is]
    cases hm : isM n (rd_T28 l (i : Int)).f0 (rd_T28 l (i : Int)).f1
    · simp
    · obtain ⟨N, a, u, hN, _⟩ := isM_nums hm
      subst hN
      simp only [Option.bind_some, if_true]
      rw [word_isM hm (by omega)]
      simp only [Option.bind_some]
      rw [w64 (by omega) (by omega), show (i : Int) + 1 = ((i + 1 : Nat) : Int) from by omega]
      refine ih (i + 1) k _ (by omega) ?_ (by omega)
      intro j hjl
      by_cases e : j = i
      · subst e; exact hm
      · exact hj j (by omega)

theorem areTerms_is (n : Int) (l : List S28) (hl : l.length ≤ 1048576) (hw : ∀ t ∈ l, t.f1 ≤ 9223372036854775807) : impl_areTerms.f n l = some (decide (0 ≤ n ∧ n ≤ 5) && good n l) := by
  unfold impl_areTerms.f
  by_cases h : 0 ≤ n ∧ n ≤ 5
  · have h1 : (l.all fun t => (impl_IsTerm.f n t.f0 t.f1).isSome) = true := List.all_eq_true.mpr fun t ht => by
      rw [impl_IsTerm_is n t.f0 t.f1 (hw t ht)]
      rfl
    rw [if_pos h, if_pos ⟨by omega, h1⟩, decide_eq_true h, Bool.true_and]
    congr 1
    have : ∀ t ∈ l, noTmB n t = !isM n t.f0 t.f1 := fun t ht => by
      unfold noTmB isTmB
      rw [impl_IsTerm_is n t.f0 t.f1 (hw t ht)]
      rfl
    unfold good
    rw [Bool.eq_iff_iff, Bool.not_eq_true', ← Bool.not_eq_true, List.all_eq_true, List.any_eq_true]
    constructor
    · intro q t ht
      cases hm : isM n t.f0 t.f1
      · exact absurd ⟨t, ht, by rw [this t ht, hm]; rfl⟩ q
      · rfl
    · rintro q ⟨t, ht, hp⟩
      rw [this t ht, q t ht] at hp
      exact absurd hp (by decide)
  · rw [if_neg h, decide_eq_false h]
    rfl

theorem tot_same (n : Int) (l : List S28) (hl : l.length ≤ 1048576) (hw : ∀ t ∈ l, t.f1 ≤ 9223372036854775807) : ∃ r, (∀ k, 1048700 ≤ k → spec_TableOfTerms.f k n l = some r) ∧ impl_TableOfTerms.f n l = some r := by
  cases hg : (decide (0 ≤ n ∧ n ≤ 5) && good n l)
  · refine ⟨(0, 0, false), fun k hk => ?_, ?_⟩
    · unfold spec_TableOfTerms.f
      exact spec_tot_no l hl hg l.length 0 k 0 (by omega) (fun j hj => absurd hj (by omega)) (by omega)
    · unfold impl_TableOfTerms.f
      rw [areTerms_is n l hl hw, hg]
      simp
  · have hh := hg
    rw [Bool.and_eq_true, decide_eq_true_eq] at hh
    obtain ⟨⟨h0, h5⟩, hgood⟩ := hh
    obtain ⟨N, rfl⟩ := Int.eq_ofNat_of_zero_le h0
    refine ⟨((N : Int), ((sumW l (2 ^ N) : Nat) : Int), true), fun k hk => ?_, ?_⟩
    · unfold spec_TableOfTerms.f
      have := spec_tot_yes (n := N) (by omega) l hl hgood l.length 0 k (by omega) (by omega)
      have e0 : sumW (l.take 0) (2 ^ N) = 0 := by
        apply Nat.eq_of_testBit_eq
        intro i
        unfold sumW
        rw [testBit_wordOf]
        simp
      rw [e0] at this
      exact this
    · unfold impl_TableOfTerms.f
      rw [areTerms_is _ l hl hw, hg]
      simp only [Option.bind_some, if_true]
      unfold impl_sumOf.f
      rw [if_pos ⟨by omega, by omega, by omega⟩]
      simp only [Option.bind_some, Int.toNat_natCast]
      have h32 := pow_le_32 (show N ≤ 5 by omega)
      have : wordOf (fun x => l.any (holdsB (x : Int))) (2 ^ N) = sumW l (2 ^ N) := by
        unfold sumW
        apply wordOf_congr
        intro x hx
        rw [Bool.eq_iff_iff, List.any_eq_true, List.any_eq_true]
        constructor
        · rintro ⟨t, ht, hp⟩
          rw [holdsB_isM (List.all_eq_true.mp hgood t ht) (by omega)] at hp
          exact ⟨t, ht, hp⟩
        · rintro ⟨t, ht, hp⟩
          refine ⟨t, ht, ?_⟩
          rw [holdsB_isM (List.all_eq_true.mp hgood t ht) (by omega)]
          exact hp
      rw [this]

def toT (l : List S26) : List S28 := l.map fun t => ⟨t.f0, t.f1⟩
theorem rd26_at {l : List S26} {k : Nat} (h : k < l.length) : rd_T26 l (k : Int) = l[k] := by
  unfold rd_T26
  rw [Int.toNat_natCast, List.getD_eq_getElem?_getD, List.getElem?_eq_getElem h]
  rfl

theorem to_loop (l : List S26) (hl : l.length ≤ 1152921504606846976) : ∀ (d i k : Nat), i + d = l.length → d < k →
    laws_toTermS.l0 k l ((toT l).take i ++ List.replicate d z28) (i : Int) = some (toT l) := by
  have hlen : (toT l).length = l.length := by simp [toT]
  intro d
  induction d with
  | zero =>
    intro i k hi hk
    obtain ⟨k, rfl⟩ : ∃ q, k = q + 1 := ⟨k - 1, by omega⟩
    simp only [laws_toTermS.l0]
    rw [if_neg (by omega), List.take_of_length_le (by omega)]
    simp
  | succ d ih =>
    intro i k hi hk
    obtain ⟨k, rfl⟩ : ∃ q, k = q + 1 := ⟨k - 1, by omega⟩
    have hil : i < l.length := by omega
    simp only [laws_toTermS.l0, laws_toTerm.f]
    rw [if_pos (show (i : Int) < (l.length : Int) by omega), if_pos (show 0 ≤ (i : Int) by omega)]
    simp only [Option.bind_some]
    have hll : ((toT l).take i ++ List.replicate (d + 1) z28).length = l.length := by simp [hlen]; omega
    rw [if_pos (by rw [hll]; omega), w64 (by omega) (by omega), Int.toNat_natCast]
    have hti : ((toT l).take i).length = i := by rw [List.length_take]; omega
    have e : ((toT l).take i ++ List.replicate (d + 1) z28).set i (⟨(rd_T26 l (i : Int)).f0, (rd_T26 l (i : Int)).f1⟩ : S28) = (toT l).take (i + 1) ++ List.replicate d z28 := by
      rw [List.set_append_right _ _ (by omega), hti, Nat.sub_self, List.replicate_succ, List.set_cons_zero, List.take_succ_eq_append_getElem (by omega), List.append_assoc]
      congr 1
      simp [toT, rd26_at hil]
    rw [e, show (i : Int) + 1 = ((i + 1 : Nat) : Int) from by omega]
    exact ih (i + 1) k (by omega) (by omega)

theorem to_is (l : List S26) (hl : l.length ≤ 17592186044416) {k : Nat} (hk : l.length < k) : laws_toTermS.f k l = some (toT l) := by
  unfold laws_toTermS.f
  rw [if_pos (by omega), if_pos (by rw [Int.toNat_natCast]; exact hl), Int.toNat_natCast]
  have := to_loop l (by omega) l.length 0 k (by omega) hk
  simpa using this
end Go.Proofs.Ytgkmgiojbiikgaa.Tot
