/- The reference's numerals: what its loop lays is what the library's numeral holds. Conditions: the bounds that stand in each. -/
import Derived.Test.YteejnblkbcekmaaDoorBits
import Derived.Test.YteejnblkbcekmaaDoorGdx
import Derived.Lib.ItoaNum
import Derived.Test.YteejnblkbcekmaaDoorPq1
import Derived.Test.YteejnblkbcekmaaDoorPz9
namespace Go.Proofs.YteejnblkbcekmaaDoor.Num
set_option linter.unusedVariables false
set_option linter.unusedSimpArgs false
open Go Go.RowKit Go.Proofs.YteejnblkbcekmaaDoor.P Go.Proofs.YteejnblkbcekmaaDoor.Bits Go.Proofs.YteejnblkbcekmaaDoorW.PrintWords Go.Proofs.YteejnblkbcekmaaDoorW.PrintLast Go.Proofs.YteejnblkbcekmaaDoorW.PrintMore

/-- A numeral's bytes, as whole numbers. -/
def DI (u : Nat) : List Int := (Lib.decDigits u).map fun b => (b.toNat : Int)
def bs (l : List UInt8) : ByteArray := ⟨l.toArray⟩
theorem bs_ints (l : List UInt8) : strOfNums (l.map fun b => (b.toNat : Int)) = bs l := by
  unfold strOfNums bs
  rw [List.map_map]
  congr 2
  have : ((fun n : Int => UInt8.ofNat n.toNat) ∘ fun b : UInt8 => (b.toNat : Int)) = id := by
    funext b
    simp
  rw [this, List.map_id]
theorem DI_str (u : Nat) : strOfNums (DI u) = bs (Lib.decDigits u) := bs_ints _
theorem bs_append (a b : List UInt8) : bs (a ++ b) = bs a ++ bs b := by
  unfold bs
  apply ByteArray.ext
  simp [ByteArray.data_append]
theorem DI_small {u : Nat} (h : u < 10) : DI u = [48 + (u : Int)] := by
  unfold DI
  rw [Lib.decDigits, dif_pos h, List.map_cons, List.map_nil]
  have : (UInt8.ofNat (48 + u)).toNat = 48 + u := by
    rw [UInt8.toNat_ofNat']
    omega
  rw [this]
  push_cast
  rfl
theorem DI_step {u : Nat} (h : ¬ u < 10) : DI u = DI (u / 10) ++ [48 + ((u % 10 : Nat) : Int)] := by
  unfold DI
  rw [Lib.decDigits, dif_neg h, List.map_append, List.map_cons, List.map_nil]
  have : (UInt8.ofNat (48 + u % 10)).toNat = 48 + u % 10 := by
    rw [UInt8.toNat_ofNat']
    omega
  rw [this]
  push_cast
  rfl
def DZ (u : Nat) : List Int := if u = 0 then [] else DI u
theorem DZ_step {u : Nat} (h : u ≠ 0) : DZ u = DZ (u / 10) ++ [48 + ((u % 10 : Nat) : Int)] := by
  unfold DZ
  rw [if_neg h]
  by_cases q : u < 10
  · rw [if_pos (by omega), DI_small q, Nat.mod_eq_of_lt q, List.nil_append]
  · rw [if_neg (by omega), DI_step q]

/-- The sign ahead of what is laid. -/
def fin (neg : Bool) (s : ByteArray) : ByteArray := if neg = true then (⟨#[45]⟩ : ByteArray) ++ s else s

theorem empty_app (s : ByteArray) : strOfNums [] ++ s = s := by
  apply ByteArray.ext
  simp [strOfNums, ByteArray.data_append]

theorem fmt_loop (neg : Bool) : ∀ (d u K : Nat) (x : Int) (out : ByteArray), (x = (u : Int) ∨ x = -(u : Int)) → u < 10 ^ d → d ≤ 20 → d + 1 ≤ K → u ≤ 9223372036854775808 → x ≤ 9223372036854775807 → out.size + d ≤ 1000 →
    spec_FormatInt.l0 K x out neg = some (fin neg (strOfNums (DZ u) ++ out)) := by
  have base : ∀ (K : Nat) (out : ByteArray), 1 ≤ K → out.size ≤ 1000 → spec_FormatInt.l0 K 0 out neg = some (fin neg (strOfNums (DZ 0) ++ out)) := by
    intro K out hK ho
    obtain ⟨K, rfl⟩ : ∃ q, K = q + 1 := ⟨K - 1, by omega⟩
    simp only [spec_FormatInt.l0]
    rw [if_pos trivial, show DZ 0 = [] from rfl, empty_app]
    unfold fin
    cases neg
    · rw [if_neg (by decide), if_neg (by decide)]
    · rw [if_pos rfl, if_pos (by omega), if_pos rfl]
  intro d
  induction d with
  | zero =>
    intro u K x out hx hu hd hK h63 hx63 ho
    obtain rfl : u = 0 := by simpa using hu
    obtain rfl : x = 0 := by omega
    exact base K out (by omega) (by omega)
  | succ d ih =>
    intro u K x out hx hu hd hK h63 hx63 ho
    by_cases h0 : u = 0
    · subst h0
      obtain rfl : x = 0 := by omega
      exact base K out (by omega) (by omega)
    · obtain ⟨K, rfl⟩ : ∃ q, K = q + 1 := ⟨K - 1, by omega⟩
      have hu2 : u / 10 < 10 ^ d := by
        rw [Nat.pow_succ] at hu
        omega
      have hsz : (strOfNums [48 + ((u % 10 : Nat) : Int)]).size = 1 := by rw [strOfNums_size]; rfl
      have key : ∀ y : Int, (y = ((u / 10 : Nat) : Int) ∨ y = -((u / 10 : Nat) : Int)) → spec_FormatInt.l0 K y (strOfNums [48 + ((u % 10 : Nat) : Int)] ++ out) neg = some (fin neg (strOfNums (DZ u) ++ out)) := by
        intro y hy
        have e := ih (u / 10) K y (strOfNums [48 + ((u % 10 : Nat) : Int)] ++ out) hy hu2 (by omega) (by omega) (by omega) (by omega) (by rw [ByteArray.size_append, hsz]; omega)
        rw [DZ_step h0, strOfNums_append, ByteArray.append_assoc]
        exact e
      simp only [spec_FormatInt.l0]
      rw [if_neg (show ¬ x = 0 by omega)]
      rcases hx with rfl | rfl
      · have e1 : Int.tmod (u : Int) 10 = ((u % 10 : Nat) : Int) := by
          rw [Int.tmod_eq_emod_of_nonneg (by omega)]
          omega
        have e2 : Int.tdiv (u : Int) 10 = ((u / 10 : Nat) : Int) := by
          rw [Int.tdiv_eq_ediv_of_nonneg (by omega)]
          omega
        rw [e1, e2, if_neg (by omega), w64 (x := 48 + _) (by omega) (by omega), w64 (by omega) (by omega), show (48 + ((u % 10 : Nat) : Int)) % 256 = 48 + ((u % 10 : Nat) : Int) by omega]
        simp only [Option.bind_some]
        rw [if_pos (by rw [hsz]; omega)]
        exact key _ (Or.inl rfl)
      · have e1 : Int.tmod (-(u : Int)) 10 = -((u % 10 : Nat) : Int) := by
          rw [Int.neg_tmod, Int.tmod_eq_emod_of_nonneg (by omega)]
          omega
        have e2 : Int.tdiv (-(u : Int)) 10 = -((u / 10 : Nat) : Int) := by
          rw [Int.neg_tdiv, Int.tdiv_eq_ediv_of_nonneg (by omega)]
          omega
        rw [e1, e2]
        by_cases hm : u % 10 = 0
        · rw [if_neg (by omega), w64 (x := 48 + _) (by omega) (by omega), show (48 + -((u % 10 : Nat) : Int)) % 256 = 48 + ((u % 10 : Nat) : Int) by omega, w64 (by omega) (by omega)]
          simp only [Option.bind_some]
          rw [if_pos (by rw [hsz]; omega)]
          exact key _ (Or.inr rfl)
        · rw [if_pos (by omega), Int.neg_neg, w64 (x := ((u % 10 : Nat) : Int)) (by omega) (by omega), w64 (x := 48 + _) (by omega) (by omega), w64 (by omega) (by omega), show (48 + ((u % 10 : Nat) : Int)) % 256 = 48 + ((u % 10 : Nat) : Int) by omega]
          simp only [Option.bind_some]
          rw [if_pos (by rw [hsz]; omega)]
          exact key _ (Or.inr rfl)

theorem app_empty (s : ByteArray) : s ++ (⟨#[]⟩ : ByteArray) = s := by
  apply ByteArray.ext
  simp [ByteArray.data_append]

/-- THE REFERENCE's NUMERAL IS THE LIBRARY's. -/
theorem fmt_spec (n : Int) (h0 : -9223372036854775808 ≤ n) (h1 : n ≤ 9223372036854775807) (K : Nat) (hK : 30 ≤ K) : spec_FormatInt.f K n = some (bs (Lib.itoa n)) := by
  unfold spec_FormatInt.f
  by_cases hn : n = 0
  · subst hn
    have e : Lib.itoa 0 = [48] := by
      unfold Lib.itoa
      rw [if_neg (by decide), show (0 : Int).toNat = 0 from rfl, Lib.decDigits_one (by decide)]
      rfl
    rw [if_pos rfl, e]
    rfl
  · rw [if_neg hn]
    have hlt : n.natAbs < 10 ^ 20 := by
      have : (10 : Nat) ^ 20 = 100000000000000000000 := by decide
      rw [this]
      omega
    rw [fmt_loop (decide (n < 0)) 20 n.natAbs K n _ (by omega) hlt (by omega) (by omega) (by omega) h1 (by decide), app_empty]
    have hz : DZ n.natAbs = DI n.natAbs := by
      unfold DZ
      rw [if_neg (by omega)]
    rw [hz, DI_str]
    unfold fin Lib.itoa
    by_cases hneg : n < 0
    · rw [if_pos (decide_eq_true hneg), if_pos hneg]
      rw [show (45 : UInt8) :: Lib.decDigits n.natAbs = [45] ++ Lib.decDigits n.natAbs from rfl, bs_append]
      rfl
    · rw [if_neg (by simpa using hneg), if_neg hneg, show n.natAbs = n.toNat by omega]
theorem fmt_impl (n : Int) (h0 : -9223372036854775808 ≤ n) (h1 : n ≤ 9223372036854775807) : impl_FormatInt.f n = some (bs (Lib.itoa n)) := by
  unfold impl_FormatInt.f strconv_Itoa_21.f
  rw [if_pos ⟨h0, h1⟩]
  rfl
theorem wf_int {n : Int} (h : (Lit.int .i64 n).wf = true) : -9223372036854775808 ≤ n ∧ n ≤ 9223372036854775807 := by
  have h1 : IntKind.i64.min = -9223372036854775808 := by decide
  have h2 : IntKind.i64.max = 9223372036854775807 := by decide
  simpa only [Lit.wf, h1, h2, Bool.and_eq_true, decide_eq_true_eq] using h
end Go.Proofs.YteejnblkbcekmaaDoor.Num
