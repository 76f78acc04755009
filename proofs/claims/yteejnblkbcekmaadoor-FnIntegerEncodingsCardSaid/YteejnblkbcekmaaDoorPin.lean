/- Numerals that are read: the reference's way and the program's come to the same. Conditions: the bounds that stand in each. -/
import Derived.Test.YteejnblkbcekmaaDoorItp
import Derived.Lib.Atoi
import Derived.Test.YteejnblkbcekmaaDoorPq1
import Derived.Test.YteejnblkbcekmaaDoorPq2
import Derived.Test.YteejnblkbcekmaaDoorPq3
import Derived.Test.YteejnblkbcekmaaDoorPz9
namespace Go.Proofs.YteejnblkbcekmaaDoor.Num
set_option linter.unusedVariables false
set_option linter.unusedSimpArgs false
open Go Go.RowKit Go.Proofs.YteejnblkbcekmaaDoor.P Go.Proofs.YteejnblkbcekmaaDoor.Bits Go.Proofs.YteejnblkbcekmaaDoorW.PrintWords Go.Proofs.YteejnblkbcekmaaDoorW.PrintLast Go.Proofs.YteejnblkbcekmaaDoorW.PrintMore

def isDig (b : UInt8) : Bool := decide (48 ≤ b.toNat) && decide (b.toNat ≤ 57)
/-- One byte more: the number that the digits spell, and how many there are. -/
def stepV (p : Nat × Nat) (b : UInt8) : Nat × Nat := if isDig b = true then (p.1 * 10 + (b.toNat - 48), p.2 + 1) else p
def foldV (p : Nat × Nat) (l : List UInt8) : Nat × Nat := l.foldl stepV p
theorem foldV_snoc (p : Nat × Nat) (l : List UInt8) (b : UInt8) : foldV p (l ++ [b]) = stepV (foldV p l) b := by
  unfold foldV
  rw [List.foldl_append]
  rfl
theorem foldV_bound : ∀ (l : List UInt8) (p : Nat × Nat), p.1 < 10 ^ p.2 → (foldV p l).1 < 10 ^ (foldV p l).2 ∧ (foldV p l).2 ≤ p.2 + l.length
  | [], p, h => ⟨h, Nat.le_refl _⟩
  | b :: l, p, h => by
    have hs : (stepV p b).1 < 10 ^ (stepV p b).2 ∧ (stepV p b).2 ≤ p.2 + 1 := by
      unfold stepV
      by_cases hb : isDig b = true
      · rw [if_pos hb]
        unfold isDig at hb
        simp only [Bool.and_eq_true, decide_eq_true_eq] at hb
        refine ⟨?_, Nat.le_refl _⟩
        show p.1 * 10 + (b.toNat - 48) < 10 ^ (p.2 + 1)
        rw [Nat.pow_succ]
        omega
      · rw [if_neg hb]
        exact ⟨h, by omega⟩
    obtain ⟨h1, h2⟩ := foldV_bound l (stepV p b) hs.1
    refine ⟨h1, ?_⟩
    show (foldV (stepV p b) l).2 ≤ p.2 + (l.length + 1)
    omega
theorem dig_of (d : Nat) (h : d < 10) : isDig (UInt8.ofNat (48 + d)) = true ∧ (UInt8.ofNat (48 + d)).toNat = 48 + d := by
  have e : (UInt8.ofNat (48 + d)).toNat = 48 + d := by
    rw [UInt8.toNat_ofNat']
    omega
  refine ⟨?_, e⟩
  unfold isDig
  rw [e]
  simp only [Bool.and_eq_true, decide_eq_true_eq]
  omega
/-- A numeral's digits are digits, and spell it. -/
theorem dec_fold (u : Nat) : (∀ b ∈ Lib.decDigits u, isDig b = true) ∧ foldV (0, 0) (Lib.decDigits u) = (u, (Lib.decDigits u).length) := by
  induction u using Nat.strongRecOn with
  | _ u ih =>
    by_cases h : u < 10
    · obtain ⟨d1, d2⟩ := dig_of u h
      rw [Lib.decDigits, dif_pos h]
      refine ⟨fun b hb => by rw [List.mem_singleton.1 hb]; exact d1, ?_⟩
      show stepV (0, 0) _ = _
      unfold stepV
      rw [if_pos d1, d2]
      simp
    · obtain ⟨i1, i2⟩ := ih (u / 10) (by omega)
      obtain ⟨d1, d2⟩ := dig_of (u % 10) (by omega)
      rw [Lib.decDigits, dif_neg h]
      refine ⟨fun b hb => ?_, ?_⟩
      · rcases List.mem_append.1 hb with q | q
        · exact i1 b q
        · rw [List.mem_singleton.1 q]
          exact d1
      · rw [foldV_snoc, i2]
        unfold stepV
        rw [if_pos d1, d2, List.length_append]
        simp only [List.length_cons, List.length_nil]
        congr 1
        omega
theorem dec_ne (u : Nat) : ∃ b r, Lib.decDigits u = b :: r := by
  cases h : Lib.decDigits u with
  | nil =>
    have := Lib.decDigits_length u
    have h2 := Lib.nDigits_pos u
    rw [h] at this
    simp at this
    omega
  | cons b r => exact ⟨b, r, rfl⟩
theorem dec_len9 (u : Nat) (h : u < 10 ^ 9) : (Lib.decDigits u).length ≤ 9 := by
  rw [Lib.decDigits_length]
  rcases Nat.lt_or_ge 9 (Lib.nDigits u) with q | q
  · exfalso
    have key : ∀ (k u : Nat), u < 10 ^ k → 1 ≤ k → Lib.nDigits u ≤ k := by
      intro k
      induction k with
      | zero => intro u _ h; omega
      | succ k ih =>
        intro u hu _
        by_cases h10 : u < 10
        · rw [Lib.nDigits_small h10]
          omega
        · rw [Lib.nDigits_big h10]
          have : u / 10 < 10 ^ k := by
            rw [Nat.pow_succ] at hu
            omega
          have hk : 1 ≤ k := by
            rcases Nat.eq_zero_or_pos k with z | z
            · subst z
              simp at hu
              omega
            · exact z
          have := ih (u / 10) this hk
          omega
    have := key 9 u h (by decide)
    omega
  · exact q

/-- The sign's word. -/
def sgn (l : List UInt8) (m : Nat) : Int := if l.head? = some 45 then -(m : Int) else (m : Int)
def bodyL (l : List UInt8) : List UInt8 := if l.head? = some 45 then l.drop 1 else l
def specP (l : List UInt8) : Int × Bool := if (foldV (0, 0) (l.take 11)).2 ≤ 9 ∧ l.length ≤ 10 ∧ Lib.itoa (sgn l (foldV (0, 0) (l.take 11)).1) = l then (sgn l (foldV (0, 0) (l.take 11)).1, true) else (0, false)
def implP (l : List UInt8) : Int × Bool := if 1 ≤ (bodyL l).length ∧ (bodyL l).length ≤ 9 ∧ (bodyL l).all isDig = true ∧ Lib.itoa (sgn l (foldV (0, 0) (bodyL l)).1) = l then (sgn l (foldV (0, 0) (bodyL l)).1, true) else (0, false)

theorem both_at (v : Int) (hv : v.natAbs < 10 ^ 9) : specP (Lib.itoa v) = (v, true) ∧ implP (Lib.itoa v) = (v, true) := by
  obtain ⟨a1, a2⟩ := dec_fold v.natAbs
  have a3 := dec_len9 v.natAbs hv
  obtain ⟨b, r, hbr⟩ := dec_ne v.natAbs
  by_cases hneg : v < 0
  · have e : Lib.itoa v = 45 :: Lib.decDigits v.natAbs := by
      unfold Lib.itoa
      rw [if_pos hneg]
    have hh : (Lib.itoa v).head? = some 45 := by rw [e]; rfl
    have hb : bodyL (Lib.itoa v) = Lib.decDigits v.natAbs := by
      unfold bodyL
      rw [if_pos hh, e]
      rfl
    have ht : (Lib.itoa v).take 11 = Lib.itoa v := List.take_of_length_le (by rw [e, List.length_cons]; omega)
    have hf : foldV (0, 0) (Lib.itoa v) = (v.natAbs, (Lib.decDigits v.natAbs).length) := by
      rw [e]
      show foldV (stepV (0, 0) 45) _ = _
      exact a2
    have hs : sgn (Lib.itoa v) v.natAbs = v := by
      unfold sgn
      rw [if_pos hh]
      omega
    constructor
    · unfold specP
      rw [ht, hf]
      rw [if_pos ⟨a3, by rw [e, List.length_cons]; omega, by rw [hs]⟩]
      simp only [hs]
    · unfold implP
      rw [hb, a2]
      rw [if_pos ⟨by rw [hbr, List.length_cons]; omega, a3, List.all_eq_true.2 a1, by rw [hs]⟩]
      simp only [hs]
  · have e : Lib.itoa v = Lib.decDigits v.natAbs := by
      unfold Lib.itoa
      rw [if_neg hneg, show v.toNat = v.natAbs by omega]
    have hh : ¬ (Lib.itoa v).head? = some 45 := by
      rw [e, hbr]
      intro q
      have h45 : b = 45 := by simpa using q
      have := a1 b (by rw [hbr]; exact List.mem_cons_self)
      rw [h45] at this
      revert this
      decide
    have hb : bodyL (Lib.itoa v) = Lib.decDigits v.natAbs := by
      unfold bodyL
      rw [if_neg hh, e]
    have ht : (Lib.itoa v).take 11 = Lib.itoa v := List.take_of_length_le (by rw [e]; omega)
    have hf : foldV (0, 0) (Lib.itoa v) = (v.natAbs, (Lib.decDigits v.natAbs).length) := by
      rw [e]
      exact a2
    have hs : sgn (Lib.itoa v) v.natAbs = v := by
      unfold sgn
      rw [if_neg hh]
      omega
    constructor
    · unfold specP
      rw [ht, hf]
      rw [if_pos ⟨a3, by rw [e]; omega, by rw [hs]⟩]
      simp only [hs]
    · unfold implP
      rw [hb, a2]
      rw [if_pos ⟨by rw [hbr, List.length_cons]; omega, a3, List.all_eq_true.2 a1, by rw [hs]⟩]
      simp only [hs]
theorem sgn_abs (l : List UInt8) (m : Nat) : (sgn l m).natAbs = m := by
  unfold sgn
  split <;> omega
theorem pow9 {m k : Nat} (h : m < 10 ^ k) (hk : k ≤ 9) : m < 10 ^ 9 := Nat.lt_of_lt_of_le h (Nat.pow_le_pow_right (by decide) hk)
theorem both_same (l : List UInt8) : specP l = implP l := by
  by_cases h1 : (foldV (0, 0) (l.take 11)).2 ≤ 9 ∧ l.length ≤ 10 ∧ Lib.itoa (sgn l (foldV (0, 0) (l.take 11)).1) = l
  · have hb := (foldV_bound (l.take 11) (0, 0) (by decide)).1
    obtain ⟨b1, b2⟩ := both_at (sgn l (foldV (0, 0) (l.take 11)).1) (by rw [sgn_abs]; exact pow9 hb h1.1)
    rw [h1.2.2] at b1 b2
    rw [b1, b2]
  · by_cases h2 : 1 ≤ (bodyL l).length ∧ (bodyL l).length ≤ 9 ∧ (bodyL l).all isDig = true ∧ Lib.itoa (sgn l (foldV (0, 0) (bodyL l)).1) = l
    · obtain ⟨hb, hb2⟩ := foldV_bound (bodyL l) (0, 0) (by decide)
      obtain ⟨b1, b2⟩ := both_at (sgn l (foldV (0, 0) (bodyL l)).1) (by rw [sgn_abs]; exact pow9 hb (by simp only [Nat.zero_add] at hb2; omega))
      rw [h2.2.2.2] at b1 b2
      rw [b1, b2]
    · unfold specP implP
      rw [if_neg h1, if_neg h2]

/-! ### the two functions -/
theorem bt_list (s : ByteArray) (i : Nat) (h : i < s.size) : ∃ b, s.data.toList[i]? = some b ∧ bt s (i : Int) = (b.toNat : Int) := by
  refine ⟨s[i], ?_, ?_⟩
  · rw [Array.getElem?_toList]
    exact Array.getElem?_eq_getElem h
  · have := bt_at s (i : Int) (by simpa using h)
    simpa using this.symm
theorem toList_ne (a : List UInt8) (s : ByteArray) : (bs a).toList = s.toList ↔ a = s.data.toList := by
  rw [ByteArray.toList_eq, ByteArray.toList_eq]
  rfl
theorem head_is (s : ByteArray) (h : 0 < s.size) : ((bt s 0 == 45) = true) ↔ s.data.toList.head? = some 45 := by
  obtain ⟨b, h1, h2⟩ := bt_list s 0 h
  rw [show (0 : Int) = ((0 : Nat) : Int) from rfl, h2, List.head?_eq_getElem?, h1]
  simp only [beq_iff_eq, Option.some.injEq]
  constructor
  · intro q
    apply UInt8.toNat_inj.1
    show b.toNat = 45
    omega
  · intro q
    rw [q]
    rfl
theorem digits_is (t : ByteArray) (ht : t.size ≤ 20) : ∀ (d i K : Nat), i + d = t.size → d + 1 ≤ K → (t.data.toList.take i).all isDig = true →
    impl_isDigits.l0 K t (t.size : Int) (i : Int) = some (t.data.toList.all isDig) := by
  intro d
  induction d with
  | zero =>
    intro i K hi hK ha
    obtain ⟨K, rfl⟩ : ∃ q, K = q + 1 := ⟨K - 1, by omega⟩
    simp only [impl_isDigits.l0]
    rw [if_neg (by omega), ← ha, List.take_of_length_le (by rw [Array.length_toList]; show t.size ≤ i; omega)]
  | succ d ih =>
    intro i K hi hK ha
    obtain ⟨K, rfl⟩ : ∃ q, K = q + 1 := ⟨K - 1, by omega⟩
    obtain ⟨b, h1, h2⟩ := bt_list t i (by omega)
    have htk : t.data.toList.take (i + 1) = t.data.toList.take i ++ [b] := by
      rw [List.take_add_one, h1]
      rfl
    simp only [impl_isDigits.l0]
    rw [if_pos (by omega), if_pos (by omega), if_pos (by omega), h2]
    by_cases hd : isDig b = true
    · have hd2 := hd
      unfold isDig at hd2
      simp only [Bool.and_eq_true, decide_eq_true_eq] at hd2
      rw [if_neg (by omega), if_neg (by omega), w64 (by omega) (by omega)]
      refine ih (i + 1) K (by omega) (by omega) ?_
      rw [htk, List.all_append, ha]
      simp [hd]
    · have hall : t.data.toList.all isDig = false := by
        rw [Bool.eq_false_iff]
        intro q
        exact hd (List.all_eq_true.1 q b (List.mem_of_getElem? h1))
      have hd2 := hd
      unfold isDig at hd2
      simp only [Bool.and_eq_true, decide_eq_true_eq] at hd2
      by_cases hl : (b.toNat : Int) < 48
      · rw [if_pos hl, hall]
      · rw [if_neg hl, if_pos (by omega), hall]

theorem dec_all : ∀ (l : List UInt8) (n k : Nat), l.all isDig = true → Lib.decFrom n l = some (foldV (n, k) l).1
  | [], n, k, _ => rfl
  | b :: l, n, k, h => by
    rw [List.all_cons, Bool.and_eq_true] at h
    have hd := h.1
    unfold isDig at hd
    simp only [Bool.and_eq_true, decide_eq_true_eq] at hd
    have e : Lib.digitVal b = some (b.toNat - 48) := by
      unfold Lib.digitVal
      rw [if_pos hd]
    simp only [Lib.decFrom, e]
    rw [dec_all l (n * 10 + (b.toNat - 48)) (k + 1) h.2]
    show _ = some (foldV (stepV (n, k) b) l).1
    unfold stepV
    rw [if_pos h.1]
theorem atoi_is (l : List UInt8) (h1 : 1 ≤ (bodyL l).length) (h2 : (bodyL l).all isDig = true) : Lib.atoi l = some (sgn l (foldV (0, 0) (bodyL l)).1) := by
  cases l with
  | nil => exact absurd h1 (by decide)
  | cons b r =>
    by_cases hb : b = 45
    · subst hb
      have hbody : bodyL (45 :: r) = r := rfl
      rw [hbody] at h1 h2 ⊢
      have hne : r.isEmpty = false := by
        cases r with
        | nil => exact absurd h1 (by decide)
        | cons _ _ => rfl
      rw [Lib.atoi, if_pos (show ((45 : UInt8) == 45) = true by decide)]
      unfold Lib.decNat sgn
      rw [hne, if_neg (by decide), dec_all r 0 0 h2, if_pos (show (45 :: r).head? = some 45 from rfl)]
      rfl
    · have hh : ¬ (b :: r).head? = some 45 := by
        intro q
        exact hb (by simpa using q)
      have hbody : bodyL (b :: r) = b :: r := by
        unfold bodyL
        rw [if_neg hh]
      rw [hbody] at h1 h2 ⊢
      have hd : isDig b = true := by
        rw [List.all_cons, Bool.and_eq_true] at h2
        exact h2.1
      have h43 : ¬ b = 43 := by
        intro q
        subst q
        revert hd
        decide
      rw [Lib.atoi, if_neg (by simpa using hb), if_neg (by simpa using h43)]
      unfold Lib.decNat sgn
      rw [show (b :: r).isEmpty = false from rfl, if_neg (by decide), dec_all (b :: r) 0 0 h2, if_neg hh]
      rfl
theorem itoa_range (l : List UInt8) (h : (bodyL l).length ≤ 9) : -9223372036854775808 ≤ sgn l (foldV (0, 0) (bodyL l)).1 ∧ sgn l (foldV (0, 0) (bodyL l)).1 ≤ 9223372036854775807 := by
  obtain ⟨hb, hb2⟩ := foldV_bound (bodyL l) (0, 0) (by decide)
  have := pow9 hb (by simp only [Nat.zero_add] at hb2; omega)
  have h9 : (10 : Nat) ^ 9 = 1000000000 := by decide
  have ha := sgn_abs l (foldV (0, 0) (bodyL l)).1
  omega

theorem impl_end (s t : ByteArray) (K : Nat) (hK : 60 ≤ K) (ht : t.data.toList = bodyL s.data.toList) (hsz : t.size ≤ s.size) (hsz2 : s.size ≤ t.size + 1) : impl_ParseInt.j1 K s t = some (implP s.data.toList) := by
  obtain ⟨K, rfl⟩ : ∃ q, K = q + 1 + 1 := ⟨K - 2, by omega⟩
  have hlen : (bodyL s.data.toList).length = t.size := by
    rw [← ht, Array.length_toList]
    rfl
  simp only [impl_ParseInt.j1]
  by_cases h1 : (t.size : Int) < 1
  · rw [if_pos h1]
    simp only [impl_ParseInt.j2]
    rw [if_pos trivial]
    unfold implP
    rw [if_neg (by omega)]
  · rw [if_neg h1]
    by_cases h9 : (t.size : Int) > 9
    · rw [if_pos h9]
      simp only [impl_ParseInt.j2]
      rw [if_pos trivial]
      unfold implP
      rw [if_neg (by omega)]
    · rw [if_neg h9]
      have hd : impl_isDigits.f (K + 1) t = some (t.data.toList.all isDig) := by
        unfold impl_isDigits.f
        exact digits_is t (by omega) t.size 0 (K + 1) (by omega) (by omega) rfl
      rw [hd]
      simp only [Option.bind_some, impl_ParseInt.j2]
      rw [ht]
      cases ha : (bodyL s.data.toList).all isDig
      · rw [if_pos (show (!false) = true from rfl)]
        unfold implP
        rw [if_neg (by rw [ha]; simp)]
      · rw [if_neg (by decide)]
        have hat := atoi_is s.data.toList (by omega) ha
        obtain ⟨r0, r1⟩ := itoa_range s.data.toList (by omega)
        unfold strconv_Atoi_23.f
        rw [if_pos (by omega), hat]
        simp only [Option.map_some, Option.bind_some]
        rw [fmt_impl _ r0 r1]
        simp only [Option.bind_some]
        unfold implP
        by_cases he : Lib.itoa (sgn s.data.toList (foldV (0, 0) (bodyL s.data.toList)).1) = s.data.toList
        · rw [if_pos ((toList_ne _ s).2 he), if_pos ⟨by omega, by omega, ha, he⟩]
        · rw [if_neg (fun q => he ((toList_ne _ s).1 q)), if_neg (fun q => he q.2.2.2)]

theorem impl_parse (s : ByteArray) (hs : s.size ≤ 1048576) (K : Nat) (hK : 100 ≤ K) : impl_ParseInt.f K s = some (implP s.data.toList) := by
  obtain ⟨K, rfl⟩ : ∃ q, K = q + 1 := ⟨K - 1, by omega⟩
  have hl : s.data.toList.length = s.size := by
    rw [Array.length_toList]
    rfl
  unfold impl_ParseInt.f
  by_cases h0 : (s.size : Int) > 0
  · rw [if_pos h0, if_pos (by omega)]
    simp only [impl_ParseInt.j0]
    by_cases hh : s.data.toList.head? = some 45
    · rw [if_pos ((head_is s (by omega)).2 hh), if_pos (by omega)]
      have hx : (s.extract 1 s.size).data.toList = s.data.toList.drop 1 := by
        rw [ByteArray.data_extract, Array.toList_extract, List.extract_eq_take_drop]
        refine List.take_of_length_le ?_
        rw [List.length_drop, hl]
        exact Nat.le_refl _
      refine impl_end s _ K (by omega) ?_ ?_ ?_
      · rw [hx]
        unfold bodyL
        rw [if_pos hh]
      · rw [ByteArray.size_extract]
        omega
      · rw [ByteArray.size_extract]
        omega
    · rw [if_neg (fun q => hh ((head_is s (by omega)).1 q))]
      refine impl_end s s K (by omega) ?_ (Nat.le_refl _) (by omega)
      unfold bodyL
      rw [if_neg hh]
  · rw [if_neg h0]
    simp only [impl_ParseInt.j0]
    rw [if_neg (by decide)]
    refine impl_end s s K (by omega) ?_ (Nat.le_refl _) (by omega)
    have : s.data.toList = [] := List.eq_nil_of_length_eq_zero (by omega)
    rw [this]
    rfl

theorem spec_end (s : ByteArray) (K : Nat) (hK : 40 ≤ K) (neg : Bool) (hn : neg = true ↔ s.data.toList.head? = some 45) (m k : Nat) (hm : m < 1000000000000) (hf : foldV (0, 0) (s.data.toList.take 11) = (m, k)) : spec_ParseInt.j2 K s (m : Int) (k : Int) neg = some (specP s.data.toList) := by
  obtain ⟨K, rfl⟩ : ∃ q, K = q + 1 := ⟨K - 1, by omega⟩
  have hl : s.data.toList.length = s.size := by
    rw [Array.length_toList]
    rfl
  have fin : ∀ n : Int, n = sgn s.data.toList m → (if (k : Int) > 9 then some ((0 : Int), false) else (if (s.size : Int) > 10 then some ((0 : Int), false) else ((spec_FormatInt.f K n).bind fun t => if t.toList = s.toList then some (n, true) else some ((0 : Int), false)))) = some (specP s.data.toList) := by
    intro n hn
    have ha := sgn_abs s.data.toList m
    rw [← hn] at ha
    unfold specP
    rw [hf]
    simp only
    rw [← hn]
    by_cases h9 : (k : Int) > 9
    · rw [if_pos h9, if_neg (by omega)]
    · rw [if_neg h9]
      by_cases h10 : (s.size : Int) > 10
      · rw [if_pos h10, if_neg (by omega)]
      · rw [if_neg h10, fmt_spec n (by omega) (by omega) K (by omega)]
        simp only [Option.bind_some]
        by_cases he : Lib.itoa n = s.data.toList
        · rw [if_pos ((toList_ne _ s).2 he), if_pos ⟨by omega, by omega, he⟩]
        · rw [if_neg (fun q => he ((toList_ne _ s).1 q)), if_neg (fun q => he q.2.2)]
  simp only [spec_ParseInt.j2]
  cases neg
  · rw [if_neg (by decide)]
    refine fin _ ?_
    unfold sgn
    rw [if_neg (fun q => by have := hn.2 q; cases this)]
  · rw [if_pos rfl, w64 (by omega) (by omega)]
    refine fin _ ?_
    unfold sgn
    rw [if_pos (hn.1 rfl)]

theorem spec_loop (s : ByteArray) (hs : s.size ≤ 1048576) : ∀ (d i K : Nat), i + d = min s.size 11 → 2 * d + 50 ≤ K → ∀ m k : Nat, foldV (0, 0) (s.data.toList.take i) = (m, k) →
    spec_ParseInt.l0 K s (m : Int) (k : Int) (i : Int) = some (specP s.data.toList) := by
  have hl : s.data.toList.length = s.size := by
    rw [Array.length_toList]
    rfl
  have bnd : ∀ i m k : Nat, i ≤ 11 → foldV (0, 0) (s.data.toList.take i) = (m, k) → m < 100000000000 ∧ k ≤ 11 := by
    intro i m k hi hf
    obtain ⟨h1, h2⟩ := foldV_bound (s.data.toList.take i) (0, 0) (by decide)
    rw [hf] at h1 h2
    simp only [Nat.zero_add, List.length_take] at h1 h2
    have hk : k ≤ 11 := by omega
    exact ⟨Nat.lt_of_lt_of_le h1 (Nat.le_trans (Nat.pow_le_pow_right (by decide) hk) (by decide)), hk⟩
  intro d
  induction d with
  | zero =>
    intro i K hi hK m k hf
    obtain ⟨K, rfl⟩ : ∃ q, K = q + 1 + 1 := ⟨K - 2, by omega⟩
    obtain ⟨hm, hk⟩ := bnd i m k (by omega) hf
    have hf2 : foldV (0, 0) (s.data.toList.take 11) = (m, k) := by
      rw [← hf]
      congr 1
      by_cases q : s.size ≤ 11
      · rw [List.take_of_length_le (by omega), List.take_of_length_le (by omega)]
      · rw [show i = 11 by omega]
    have e : spec_ParseInt.l0 (K + 1 + 1) s (m : Int) (k : Int) (i : Int) = spec_ParseInt.j1 (K + 1) s (m : Int) (k : Int) (i : Int) false := by
      simp only [spec_ParseInt.l0]
      by_cases q : (i : Int) < (s.size : Int)
      · rw [if_pos q, decide_eq_false (by omega)]
      · rw [if_neg q]
    rw [e]
    simp only [spec_ParseInt.j1]
    rw [if_neg (by decide)]
    by_cases h0 : (s.size : Int) > 0
    · rw [if_pos h0, if_pos (by omega)]
      exact spec_end s K (by omega) _ (head_is s (by omega)) m k (by omega) hf2
    · rw [if_neg h0]
      refine spec_end s K (by omega) false ?_ m k (by omega) hf2
      have : s.data.toList = [] := List.eq_nil_of_length_eq_zero (by omega)
      rw [this]
      simp
  | succ d ih =>
    intro i K hi hK m k hf
    obtain ⟨K, rfl⟩ : ∃ q, K = q + 1 + 1 := ⟨K - 2, by omega⟩
    obtain ⟨hm, hk⟩ := bnd i m k (by omega) hf
    obtain ⟨b, h1, h2⟩ := bt_list s i (by omega)
    have e := ih (i + 1) K (by omega) (by omega)
    clear ih bnd
    have htk : foldV (0, 0) (s.data.toList.take (i + 1)) = stepV (m, k) b := by
      rw [List.take_add_one, h1, ← hf]
      exact foldV_snoc _ _ _
    simp only [spec_ParseInt.l0]
    rw [if_pos (by omega), decide_eq_true (by omega)]
    simp only [spec_ParseInt.j1]
    rw [if_pos trivial, if_pos (by omega), if_pos (by omega), h2]
    have hw : wrap64 ((i : Int) + 1) = ((i + 1 : Nat) : Int) := by
      rw [w64 (by omega) (by omega)]
      omega
    unfold stepV at htk
    by_cases hd : isDig b = true
    · rw [if_pos hd] at htk
      unfold isDig at hd
      simp only [Bool.and_eq_true, decide_eq_true_eq] at hd
      rw [if_pos (by omega), if_pos (by omega), w64 (x := (m : Int) * 10) (by omega) (by omega), show ((b.toNat : Int) - 48) % 256 = ((b.toNat - 48 : Nat) : Int) by omega, w64 (by omega) (by omega), w64 (x := (k : Int) + 1) (by omega) (by omega), hw]
      have e2 := e (m * 10 + (b.toNat - 48)) (k + 1) htk
      rw [show (m : Int) * 10 + ((b.toNat - 48 : Nat) : Int) = ((m * 10 + (b.toNat - 48) : Nat) : Int) by omega, show (k : Int) + 1 = ((k + 1 : Nat) : Int) by omega]
      exact e2
    · rw [if_neg hd] at htk
      unfold isDig at hd
      simp only [Bool.and_eq_true, decide_eq_true_eq] at hd
      have e := e m k htk
      by_cases hge : (b.toNat : Int) ≥ 48
      · rw [if_pos hge, if_neg (by omega), hw]
        exact e
      · rw [if_neg hge, hw]
        exact e
theorem spec_parse (s : ByteArray) (hs : s.size ≤ 1048576) (K : Nat) (hK : 100 ≤ K) : spec_ParseInt.f K s = some (specP s.data.toList) := by
  unfold spec_ParseInt.f
  exact spec_loop s hs (min s.size 11) 0 K (by omega) (by omega) 0 0 rfl
end Go.Proofs.YteejnblkbcekmaaDoor.Num
