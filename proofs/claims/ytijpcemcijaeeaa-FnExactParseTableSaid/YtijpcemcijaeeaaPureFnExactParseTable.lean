/- The law FnExactParseTable: its plain function answers true for all its arguments. No conditions but those of the statement. -/
import Derived.Test.YtijpcemcijaeeaaTab
import Derived.Test.YtijpcemcijaeeaaPLFnExactParseTable
import Derived.Test.YtijpcemcijaeeaaGmp
import Derived.Test.YtijpcemcijaeeaaPLFnExactParseTable
import Derived.Test.YtijpcemcijaeeaaPa0
import Derived.Test.YtijpcemcijaeeaaPm2
namespace Go.Proofs.Ytijpcemcijaeeaa.Pure
set_option linter.unusedVariables false
set_option linter.unusedSimpArgs false
open Go Go.RowKit Go.Proofs.Ytijpcemcijaeeaa.P Go.Proofs.Ytijpcemcijaeeaa.Bits Go.Proofs.Ytijpcemcijaeeaa.Tab Go.Proofs.YtijpcemcijaeeaaW.PrintWords Go.Proofs.YtijpcemcijaeeaaW.PrintLast Go.Proofs.YtijpcemcijaeeaaW.PrintMore

def chP (w : Int) (i : Nat) : Int := if w.toNat.testBit i then 49 else 48

theorem fmt_implP {n w : Int} (w0 : 0 ≤ w) (w1 : w ≤ 4294967296) (m : Nat) (hm : m ≤ 32) : ∀ (d i k : Nat), i + d = m → d < k →
    impl_FormatTable.l0 k ((List.range i).map (chP w) ++ List.replicate (m - i) 0) (m : Int) (i : Int) n w = some (strOfNums ((List.range m).map (chP w))) := by
  intro d
  induction d with
  | zero =>
    intro i k hi hk
    obtain ⟨k, rfl⟩ : ∃ q, k = q + 1 := ⟨k - 1, by omega⟩
    obtain rfl : i = m := by omega
    simp only [impl_FormatTable.l0]
    rw [if_neg (by omega)]
    simp
  | succ d ih =>
    intro i k hi hk
    obtain ⟨k, rfl⟩ : ∃ q, k = q + 1 := ⟨k - 1, by omega⟩
    simp only [impl_FormatTable.l0]
    rw [if_pos (by omega), at_is w0 (by omega) (by omega) (by omega)]
    simp only [Option.bind_some]
    rw [if_pos (by omega), if_pos (by simp; omega), w64 (by omega) (by omega)]
    have e : ((48 + ((w.toNat.testBit (i : Int).toNat).toNat : Int) % 256) % 256) = chP w i := by
      unfold chP
      rw [Int.toNat_natCast]
      cases w.toNat.testBit i <;> rfl
    rw [e, Int.toNat_natCast, fill_step (show i < m by omega)]
    have := ih (i + 1) k (by omega) (by omega)
    push_cast at this
    exact this

theorem fmt_isP {n w : Int} (h : isT n w = true) (m : Nat) (hm : two n = (m : Int)) : impl_FormatTable.f 67 n w = some (strOfNums ((List.range m).map (chP w))) := by
  obtain ⟨h0, h5, w0, hl⟩ := isT_yes h
  have h2 := two_le n
  have h3 := lim_le n
  unfold impl_FormatTable.f
  rw [impl_IsTable_is, h]
  simp only [Option.bind_some, if_true]
  rw [size_is h0 h5, hm]
  simp only [Option.bind_some, Int.toNat_natCast, List.length_replicate]
  rw [if_pos (by omega), if_pos (by omega)]
  have := fmt_implP (n := n) w0 (by omega) m (by omega) m 0 67 (by omega) (by omega)
  simpa using this

def goodB (s : ByteArray) (j : Nat) : Bool := bt s (j : Int) == 49 || bt s (j : Int) == 48
def goodF (s : ByteArray) : Nat → Nat → Bool
  | _, 0 => true
  | i, d + 1 => goodB s i && goodF s (i + 1) d

theorem goodF_iff (s : ByteArray) : ∀ d i, goodF s i d = true ↔ ∀ j, i ≤ j → j < i + d → goodB s j = true
  | 0, i => by simp [goodF]; omega
  | d + 1, i => by
    simp only [goodF, Bool.and_eq_true, goodF_iff s d (i + 1)]
    constructor
    · rintro ⟨h1, h2⟩ j a b
      by_cases e : j = i
      · rw [e]; exact h1
      · exact h2 j (by omega) (by omega)
    · intro h
      exact ⟨h i (by omega) (by omega), fun j a b => h j (by omega) (by omega)⟩

theorem bytes_are (s : ByteArray) : s.data.toList = (List.range s.size).map fun (j : Nat) => UInt8.ofNat (bt s (j : Int)).toNat := by
  apply List.ext_getElem
  · simp
  · intro j h1 h2
    have hj : j < s.size := by simpa using h1
    have hj' : (j : Int).toNat < s.size := by rw [Int.toNat_natCast]; exact hj
    simp only [List.getElem_map, List.getElem_range]
    unfold bt
    rw [dif_pos hj', Int.toNat_natCast]
    simp only [Int.toNat_natCast, Array.getElem_toList]
    rw [UInt8.ofNat_toNat]
    rfl

theorem u8_ofNat_inj {a b : Nat} (ha : a < 256) (hb : b < 256) : UInt8.ofNat a = UInt8.ofNat b ↔ a = b := by
  constructor
  · intro h
    have := congrArg UInt8.toNat h
    rwa [UInt8.toNat_ofNat', UInt8.toNat_ofNat', Nat.mod_eq_of_lt (by simpa using ha), Nat.mod_eq_of_lt (by simpa using hb)] at this
  · rintro rfl; rfl

theorem fmt_same (s : ByteArray) (m : Nat) (hs : s.size = m) : (strOfNums ((List.range m).map (chP ((wordOf (fun x => bt s (x : Int) == 49) m : Nat) : Int)))).toList = s.toList ↔ goodF s 0 m = true := by
  rw [ByteArray.toList_eq, ByteArray.toList_eq, bytes_are s, strOfNums_data, hs, List.map_map, List.map_inj_left, goodF_iff]
  constructor
  · intro h j _ hj
    have := h j (List.mem_range.mpr (by omega))
    have b1 := bt_range s (j : Int)
    simp only [Function.comp, chP, Int.toNat_natCast, testBit_wordOf] at this
    unfold goodB
    split at this <;> rw [u8_ofNat_inj (by decide) (by omega)] at this
    · have : bt s (j : Int) = 49 := by
        have h49 : (49 : Int).toNat = 49 := rfl
        omega
      rw [this]; rfl
    · have : bt s (j : Int) = 48 := by
        have h48 : (48 : Int).toNat = 48 := rfl
        omega
      rw [this]; rfl
  · intro h j hj
    have hj := List.mem_range.mp hj
    have hg := h j (by omega) (by omega)
    unfold goodB at hg
    simp only [Bool.or_eq_true, beq_iff_eq] at hg
    simp only [Function.comp, chP, Int.toNat_natCast, testBit_wordOf, hj, decide_true, Bool.true_and]
    rcases hg with hg | hg <;> rw [hg] <;> rfl

theorem spec_parse_l1 (s : ByteArray) (n : Int) (m : Nat) (hm : m ≤ 32) (hs : s.size = m) : ∀ (d i k : Nat), i + d = m → d < k →
    spec_ParseTable.l1 k s n ((wordOf (fun x => bt s (x : Int) == 49) i : Nat) : Int) (i : Int) = some (if goodF s i d then (n, ((wordOf (fun x => bt s (x : Int) == 49) m : Nat) : Int), true) else (0, 0, false)) := by
  intro d
  induction d with
  | zero =>
    intro i k hi hk
    obtain ⟨k, rfl⟩ : ∃ q, k = q + 1 := ⟨k - 1, by omega⟩
    obtain rfl : i = m := by omega
    simp only [spec_ParseTable.l1]
    rw [if_neg (by omega)]
    simp [goodF]
  | succ d ih =>
    intro i k hi hk
    obtain ⟨k, rfl⟩ : ∃ q, k = q + 1 := ⟨k - 1, by omega⟩
    have ih' := ih (i + 1) k (by omega) (by omega)
    simp only [spec_ParseTable.l1]
    rw [if_pos (by omega), if_pos (by omega), w64 (by omega) (by omega)]
    rw [show ((i + 1 : Nat) : Int) = (i : Int) + 1 from by omega] at ih'
    by_cases h1 : bt s (i : Int) = 49
    · have e1 : (bt s (i : Int) == 49) = true := by rw [h1]; rfl
      have es : shl .i64 1 (i : Int) = ((2 ^ i : Nat) : Int) := by
        unfold shl
        rw [Nat.min_eq_left (by simp [IntKind.bits]; omega), Int.toNat_natCast, Int.one_mul]
        have : ((2 : Int) ^ i) = ((2 ^ i : Nat) : Int) := by push_cast; rfl
        rw [this]
        exact wrap_nat _ (Nat.pow_lt_pow_right (by decide) (by omega))
      have hl := wordOf_lt (fun x => bt s (x : Int) == 49) i
      have h62 : 2 ^ i ≤ 2 ^ 31 := Nat.pow_le_pow_right (by decide) (by omega)
      have e2 : bits .or .i64 ((wordOf (fun x => bt s (x : Int) == 49) i : Nat) : Int) ((2 ^ i : Nat) : Int) = ((wordOf (fun x => bt s (x : Int) == 49) (i + 1) : Nat) : Int) := by
        rw [or_nat _ _ (by rw [p63]; omega) (by rw [p63]; omega)]
        simp only [wordOf, e1, if_true]
      rw [if_pos h1, es, e2, ih']
      simp [goodF, goodB, e1]
    · have e1 : (bt s (i : Int) == 49) = false := by rw [beq_eq_false_iff_ne]; exact h1
      rw [if_neg h1]
      by_cases h0 : bt s (i : Int) = 48
      · have e2 : wordOf (fun x => bt s (x : Int) == 49) (i + 1) = wordOf (fun x => bt s (x : Int) == 49) i := by simp only [wordOf, e1]; simp
        rw [if_pos h0]
        rw [e2] at ih'
        rw [ih']
        simp [goodF, goodB, h0]
      · have e0 : (bt s (i : Int) == 48) = false := by rw [beq_eq_false_iff_ne]; exact h0
        rw [if_neg h0]
        simp [goodF, goodB, e1, e0]

theorem parse_at (s : ByteArray) (n : Nat) (hn : n ≤ 5) (hs : s.size = 2 ^ n) (hz : szN s.size = some n) : impl_ParseTable.f s = some (if goodF s 0 (2 ^ n) then ((n : Int), ((wordOf (fun x => bt s (x : Int) == 49) (2 ^ n) : Nat) : Int), true) else (0, 0, false)) := by
  have ht : two (n : Int) = ((2 ^ n : Nat) : Int) := by
    rw [two_pow (by omega) (by omega), Int.toNat_natCast]
    push_cast
    rfl
  have hT : isT (n : Int) ((parW s n : Nat) : Int) = true := by
    refine isT_of ⟨by omega, by omega, by omega, ?_⟩
    rw [lim_two (by omega) (by omega), ht, Int.toNat_natCast]
    have := wordOf_lt (fun x => bt s (x : Int) == 49) (2 ^ n)
    unfold parW
    have e : ((2 : Int) ^ (2 ^ n)) = ((2 ^ 2 ^ n : Nat) : Int) := by push_cast; rfl
    rw [e]
    omega
  unfold impl_ParseTable.f
  rw [hz]
  simp only
  rw [fmt_isP hT _ ht, Option.bind_some]
  have := fmt_same s (2 ^ n) hs
  unfold parW
  by_cases hg : goodF s 0 (2 ^ n) = true
  · rw [if_pos (this.mpr hg), if_pos hg]
  · rw [if_neg (fun q => hg (this.mp q)), if_neg hg]

theorem spec_at (s : ByteArray) (n : Nat) (hn : n ≤ 5) (hs : s.size = 2 ^ n) : ∀ (d i k : Nat), i + d = n → d + 40 < k →
    spec_ParseTable.l0 k s (i : Int) = some (if goodF s 0 (2 ^ n) then ((n : Int), ((wordOf (fun x => bt s (x : Int) == 49) (2 ^ n) : Nat) : Int), true) else (0, 0, false)) := by
  have h32 : 2 ^ n ≤ 2 ^ 5 := Nat.pow_le_pow_right (by decide) hn
  intro d
  induction d with
  | zero =>
    intro i k hi hk
    obtain ⟨k, rfl⟩ : ∃ q, k = q + 1 := ⟨k - 1, by omega⟩
    obtain rfl : i = n := by omega
    simp only [spec_ParseTable.l0]
    have e : two (i : Int) = ((2 ^ i : Nat) : Int) := by
      rw [two_pow (by omega) (by omega), Int.toNat_natCast]
      push_cast
      rfl
    rw [if_pos (by omega), if_pos (by omega), shl_two (by omega) (by omega), e, if_pos (by omega)]
    exact spec_parse_l1 s (i : Int) (2 ^ i) (by omega) hs (2 ^ i) 0 k (by omega) (by omega)
  | succ d ih =>
    intro i k hi hk
    obtain ⟨k, rfl⟩ : ∃ q, k = q + 1 := ⟨k - 1, by omega⟩
    simp only [spec_ParseTable.l0]
    have e : two (i : Int) = ((2 ^ i : Nat) : Int) := by
      rw [two_pow (by omega) (by omega), Int.toNat_natCast]
      push_cast
      rfl
    have hlt : 2 ^ i < 2 ^ n := Nat.pow_lt_pow_right (by decide) (by omega)
    rw [if_pos (by omega), if_pos (by omega), shl_two (by omega) (by omega), e, if_neg (by omega), w64 (by omega) (by omega)]
    exact ih (i + 1) k (by omega) (by omega)

theorem spec_none (s : ByteArray) (hz : ∀ j, j < 6 → s.size ≠ 2 ^ j) : ∀ (d i k : Nat), i + d = 6 → d < k → spec_ParseTable.l0 k s (i : Int) = some (0, 0, false) := by
  intro d
  induction d with
  | zero =>
    intro i k hi hk
    obtain ⟨k, rfl⟩ : ∃ q, k = q + 1 := ⟨k - 1, by omega⟩
    simp only [spec_ParseTable.l0]
    rw [if_neg (by omega)]
  | succ d ih =>
    intro i k hi hk
    obtain ⟨k, rfl⟩ : ∃ q, k = q + 1 := ⟨k - 1, by omega⟩
    simp only [spec_ParseTable.l0]
    have e : two (i : Int) = ((2 ^ i : Nat) : Int) := by
      rw [two_pow (by omega) (by omega), Int.toNat_natCast]
      push_cast
      rfl
    have := hz i (by omega)
    rw [if_pos (by omega), if_pos (by omega), shl_two (by omega) (by omega), e, if_neg (by omega), w64 (by omega) (by omega)]
    exact ih (i + 1) k (by omega) (by omega)

theorem parse_same (s : ByteArray) : ∃ r, spec_ParseTable.f 60 s = some r ∧ impl_ParseTable.f s = some r := by
  by_cases h : ∃ n, n ≤ 5 ∧ s.size = 2 ^ n
  · obtain ⟨n, hn, hs⟩ := h
    have hz : szN s.size = some n := by
      rw [hs]
      rcases (by omega : n = 0 ∨ n = 1 ∨ n = 2 ∨ n = 3 ∨ n = 4 ∨ n = 5) with rfl | rfl | rfl | rfl | rfl | rfl <;> decide
    exact ⟨_, spec_at s n hn hs n 0 60 (by omega) (by omega), parse_at s n hn hs hz⟩
  · have hno : ∀ j, j < 6 → s.size ≠ 2 ^ j := fun j hj e => h ⟨j, by omega, e⟩
    have hz : szN s.size = none := by
      have n0 := hno 0 (by omega)
      have n1 := hno 1 (by omega)
      have n2 := hno 2 (by omega)
      have n3 := hno 3 (by omega)
      have n4 := hno 4 (by omega)
      have n5 := hno 5 (by omega)
      unfold szN
      rw [if_neg (by simpa using n0), if_neg (by simpa using n1), if_neg (by simpa using n2), if_neg (by simpa using n3), if_neg (by simpa using n4), if_neg (by simpa using n5)]
    refine ⟨_, spec_none s hno 6 0 60 (by omega) (by omega), ?_⟩
    unfold impl_ParseTable.f
    rw [hz]

theorem FnExactParseTable : laws_FnExactParseTable.Pure := by
  intro s _
  refine ⟨60, ?_⟩
  obtain ⟨r, r1, r2⟩ := parse_same s
  unfold laws_FnExactParseTable.f
  rw [r1, r2]
  simp only [Option.bind_some, laws_eqTable.f, if_true, bne_self_eq_false, Bool.false_eq_true, if_false]
  split <;> rfl

end Go.Proofs.Ytijpcemcijaeeaa.Pure
