/- Texts of formulas, byte by byte: what the library's searches and counts come to, and that a formula has no other signs. Conditions: the bounds that stand in each. -/
import Derived.Test.YtgkmgiojbiikgaaIsf
import Derived.Test.YtgkmgiojbiikgaaGsl

namespace Go.Proofs.Ytgkmgiojbiikgaa.Fml
set_option linter.unusedVariables false
set_option linter.unusedSimpArgs false
open Go Go.RowKit Go.Proofs.Ytgkmgiojbiikgaa.P Go.Proofs.Ytgkmgiojbiikgaa.Bits Go.Proofs.Ytgkmgiojbiikgaa.Isf Go.Proofs.YtgkmgiojbiikgaaW.PrintWords Go.Proofs.YtgkmgiojbiikgaaW.PrintLast Go.Proofs.YtgkmgiojbiikgaaW.PrintMore

theorem bytes_are (s : ByteArray) : s.data.toList = (List.range s.size).map fun (j : Nat) => UInt8.ofNat (bt s (j : Int)).toNat := by
  apply List.ext_getElem
  · simp
  · intro j h1 h2
    have hj : j < s.size := by simpa using h1
    have hj' : (j : Int).toNat < s.size := by rw [Int.toNat_natCast]; exact hj
    simp only [List.getElem_map, List.getElem_range]
    unfold bt
    rw [dif_pos hj', Int.toNat_natCast]
    simp only [Int.toNat_natCast, Array.getElem_toList]
    rw [UInt8.ofNat_toNat]
    rfl

theorem u8_is {n : Int} (h0 : 0 ≤ n) (h1 : n ≤ 255) (c : Nat) (hc : c < 256) : UInt8.ofNat n.toNat = UInt8.ofNat c ↔ n = (c : Int) := by
  constructor
  · intro h
    have := congrArg UInt8.toNat h
    rw [UInt8.toNat_ofNat', UInt8.toNat_ofNat', Nat.mod_eq_of_lt (by simp; omega), Nat.mod_eq_of_lt (by simpa using hc)] at this
    omega
  · rintro rfl; rfl

theorem mem_bytes (s : ByteArray) (c : Nat) (hc : c < 256) : UInt8.ofNat c ∈ s.data.toList ↔ ∃ j, j < s.size ∧ bt s (j : Int) = (c : Int) := by
  rw [bytes_are, List.mem_map]
  constructor
  · rintro ⟨j, hj, e⟩
    exact ⟨j, List.mem_range.1 hj, (u8_is (bt_range s j).1 (bt_range s j).2 c hc).mp e⟩
  · rintro ⟨j, hj, e⟩
    exact ⟨j, List.mem_range.2 hj, (u8_is (bt_range s j).1 (bt_range s j).2 c hc).mpr e⟩

theorem indexByte_mem (l : List UInt8) (c : UInt8) : (0 ≤ Lib.indexByte l c) ↔ c ∈ l := by
  induction l with
  | nil => simp [Lib.indexByte]
  | cons b l ih =>
    have hg := Lib.indexByte_ge l c
    unfold Lib.indexByte
    by_cases h : b = c
    · subst h; simp
    · have e : (b == c) = false := by rw [beq_eq_false_iff_ne]; exact h
      rw [e]
      simp only [Bool.false_eq_true, if_false, List.mem_cons, ← ih]
      split
      · rename_i q
        have q' : Lib.indexByte l c = -1 := by simpa using q
        constructor
        · intro h2; omega
        · rintro (h2 | h2)
          · exact absurd h2.symm h
          · omega
      · rename_i q
        have q' : Lib.indexByte l c ≠ -1 := by simpa using q
        constructor
        · intro _; right; omega
        · intro _; omega

theorem containsAny_mem (l chars : List UInt8) : Lib.containsAny l chars = true ↔ ∃ b ∈ l, b ∈ chars := by
  unfold Lib.containsAny
  rw [decide_eq_true_eq]
  induction l with
  | nil => simp [Lib.indexAny]
  | cons b l ih =>
    have hg := Lib.indexAny_ge chars l
    unfold Lib.indexAny
    by_cases h : b ∈ chars
    · have e : chars.contains b = true := by simpa using h
      rw [e]
      simp only [if_true]
      exact ⟨fun _ => ⟨b, by simp, h⟩, fun _ => Int.le_refl _⟩
    · have e : chars.contains b = false := by simpa using h
      rw [e]
      simp only [Bool.false_eq_true, if_false]
      have : (∃ b' ∈ b :: l, b' ∈ chars) ↔ ∃ b' ∈ l, b' ∈ chars := by
        constructor
        · rintro ⟨x, hx, hc⟩
          rcases List.mem_cons.1 hx with rfl | hx
          · exact absurd hc h
          · exact ⟨x, hx, hc⟩
        · rintro ⟨x, hx, hc⟩
          exact ⟨x, List.mem_cons_of_mem _ hx, hc⟩
      rw [this, ← ih]
      split
      · rename_i q
        have q' : Lib.indexAny l chars = -1 := by simpa using q
        omega
      · rename_i q
        have q' : Lib.indexAny l chars ≠ -1 := by simpa using q
        omega

def cnt (s : ByteArray) (c : Int) : Nat → Nat
  | 0 => 0
  | k + 1 => cnt s c k + if bt s (k : Int) = c then 1 else 0

theorem cnt_pos (s : ByteArray) (c : Int) : ∀ k, 1 ≤ cnt s c k ↔ ∃ i, i < k ∧ bt s (i : Int) = c
  | 0 => by simp [cnt]
  | k + 1 => by
    have ih := cnt_pos s c k
    simp only [cnt]
    constructor
    · intro h
      by_cases e : bt s (k : Int) = c
      · exact ⟨k, by omega, e⟩
      · rw [if_neg e] at h
        obtain ⟨i, h1, h2⟩ := ih.mp (by omega)
        exact ⟨i, by omega, h2⟩
    · rintro ⟨i, h1, h2⟩
      by_cases e : i = k
      · subst e; rw [if_pos h2]; omega
      · have := ih.mpr ⟨i, by omega, h2⟩
        omega

theorem cnt_two (s : ByteArray) (c : Int) : ∀ k, 2 ≤ cnt s c k ↔ ∃ i j, i < k ∧ j < i ∧ bt s (i : Int) = c ∧ bt s (j : Int) = c
  | 0 => by simp [cnt]
  | k + 1 => by
    have ih := cnt_two s c k
    have hp := cnt_pos s c k
    simp only [cnt]
    constructor
    · intro h
      by_cases e : bt s (k : Int) = c
      · rw [if_pos e] at h
        obtain ⟨j, h1, h2⟩ := hp.mp (by omega)
        exact ⟨k, j, by omega, h1, e, h2⟩
      · rw [if_neg e] at h
        obtain ⟨i, j, h1, h2, h3⟩ := ih.mp (by omega)
        exact ⟨i, j, by omega, h2, h3⟩
    · rintro ⟨i, j, h1, h2, h3, h4⟩
      by_cases e : i = k
      · subst e
        rw [if_pos h3]
        have := hp.mpr ⟨j, h2, h4⟩
        omega
      · have := ih.mpr ⟨i, j, by omega, h2, h3, h4⟩
        omega

theorem count_is (s : ByteArray) (c : Nat) (hc : c < 256) : Lib.countByte s.data.toList (UInt8.ofNat c) = cnt s (c : Int) s.size := by
  unfold Lib.countByte
  rw [bytes_are]
  generalize s.size = m
  induction m with
  | zero => simp [cnt]
  | succ m ih =>
    rw [List.range_succ, List.map_append, List.count_append, ih]
    simp only [cnt, List.map_cons, List.map_nil, List.count_cons, List.count_nil, Nat.zero_add]
    congr 1
    have := u8_is (bt_range s (m : Int)).1 (bt_range s (m : Int)).2 c hc
    by_cases e : bt s (m : Int) = (c : Int)
    · rw [if_pos (by rw [beq_iff_eq]; exact this.mpr e), if_pos e]
    · rw [if_neg (by rw [beq_iff_eq]; exact fun q => e (this.mp q)), if_neg e]

/-- the signs of a formula -/
def okC (c : Int) : Prop := 0 ≤ c ∧ c < 128

theorem leaf_ok {c : Int} (h : leafC c = true) : okC c := by
  unfold leafC at h
  simp only [Bool.or_eq_true, decide_eq_true_eq, beq_iff_eq] at h
  unfold okC
  omega
theorem bin_ok {c : Int} (h : binC c = true) : okC c := by
  unfold binC at h
  simp only [Bool.or_eq_true, beq_iff_eq] at h
  unfold okC
  omega

theorem ext_shift (s : ByteArray) {i j : Nat} (hi : i ≤ s.size) (hj : j < s.size - i) : bt (s.extract i s.size) (j : Int) = bt s ((i + j : Nat) : Int) := by
  have h1 : (j : Int).toNat < (s.extract i s.size).size := by rw [ext_size s hi, Int.toNat_natCast]; exact hj
  have h2 : ((i + j : Nat) : Int).toNat < s.size := by rw [Int.toNat_natCast]; omega
  unfold bt
  rw [dif_pos h1, dif_pos h2]
  congr 2
  simp only [Int.toNat_natCast]
  rw [ByteArray.getElem_extract]

/-- what the reader leaves is an end of the text, and what it took are a formula's signs -/
theorem rp_took (s : ByteArray) : ∀ (k i : Nat) (u : ByteArray), i ≤ s.size → rp k (s.extract i s.size) = some u → ∃ e, i < e ∧ e ≤ s.size ∧ u = s.extract e s.size ∧ ∀ j, i ≤ j → j < e → okC (bt s (j : Int)) := by
  intro k
  induction k with
  | zero => intro i u _ h; simp [rp] at h
  | succ k ih =>
    intro i u hi h
    simp only [rp] at h
    rw [ext_size s hi] at h
    by_cases h0 : s.size - i = 0
    · rw [if_pos h0] at h; cases h
    · rw [if_neg h0, ← ext_size s hi, ext_tail s (by omega), ext_bt s (by omega)] at h
      by_cases hl : leafC (bt s (i : Int)) = true
      · rw [if_pos hl] at h
        obtain rfl := Option.some.inj h
        refine ⟨i + 1, by omega, by omega, rfl, fun j a b => ?_⟩
        obtain rfl : j = i := by omega
        exact leaf_ok hl
      · rw [if_neg hl] at h
        by_cases h33 : bt s (i : Int) = 33
        · rw [if_pos h33] at h
          obtain ⟨e, h1, h2, h3, h4⟩ := ih (i + 1) u (by omega) h
          refine ⟨e, by omega, h2, h3, fun j a b => ?_⟩
          by_cases ej : j = i
          · subst ej; rw [h33]; unfold okC; omega
          · exact h4 j (by omega) b
        · rw [if_neg h33] at h
          by_cases hb : binC (bt s (i : Int)) = true
          · rw [if_pos hb] at h
            obtain ⟨v, hv, hu⟩ := Option.bind_eq_some_iff.mp h
            obtain ⟨e, h1, h2, rfl, h4⟩ := ih (i + 1) v (by omega) hv
            obtain ⟨e2, g1, g2, g3, g4⟩ := ih e u h2 hu
            refine ⟨e2, by omega, g2, g3, fun j a b => ?_⟩
            by_cases ej : j = i
            · subst ej; exact bin_ok hb
            · by_cases ej2 : j < e
              · exact h4 j (by omega) ej2
              · exact g4 j (by omega) b
          · rw [if_neg hb] at h; cases h

theorem isF_signs {s : ByteArray} (h : isF s = true) : s.size ≤ 60 ∧ ∀ j, j < s.size → okC (bt s (j : Int)) := by
  unfold isF wholeF at h
  rw [Bool.and_eq_true, decide_eq_true_eq] at h
  obtain ⟨h1, h2⟩ := h
  refine ⟨h1, fun j hj => ?_⟩
  cases hr : rp (s.size + 1) s with
  | none => rw [hr] at h2; cases h2
  | some u =>
    rw [hr] at h2
    have hu : u.size = 0 := by
      have : (u.size == 0) = true := h2
      simpa using this
    have hr' : rp (s.size + 1) (s.extract 0 s.size) = some u := by rw [ext_all]; exact hr
    obtain ⟨e, g1, g2, g3, g4⟩ := rp_took s _ 0 u (by omega) hr'
    rw [g3, ext_size s g2] at hu
    exact g4 j (by omega) (by omega)

theorem ascii_of {s : ByteArray} (h : ∀ j, j < s.size → okC (bt s (j : Int))) : asciiB s = true := by
  unfold asciiB
  rw [List.all_eq_true]
  intro b hb
  rw [bytes_are, List.mem_map] at hb
  obtain ⟨j, hj, rfl⟩ := hb
  have := h j (List.mem_range.1 hj)
  unfold okC at this
  rw [decide_eq_true_eq, UInt8.toNat_ofNat', Nat.mod_eq_of_lt (by simp; omega)]
  omega

end Go.Proofs.Ytgkmgiojbiikgaa.Fml
