/- Numbers of a fixed width: what is encoded is decoded again, whatever follows. Conditions: the bounds that stand in each. -/
import Derived.Test.YteejnblkbcekmaaDoorItp
import Derived.Test.YteejnblkbcekmaaDoorPin
import Derived.Test.YteejnblkbcekmaaDoorPb3
import Derived.Laws.BitsAllLaws
import Derived.Test.YteejnblkbcekmaaDoorPb3
namespace Go.Proofs.YteejnblkbcekmaaDoor.Num
set_option linter.unusedVariables false
set_option linter.unusedSimpArgs false
open Go Go.RowKit Go.Proofs.YteejnblkbcekmaaDoor.P Go.Proofs.YteejnblkbcekmaaDoor.Bits Go.Proofs.YteejnblkbcekmaaDoorW.PrintWords Go.Proofs.YteejnblkbcekmaaDoorW.PrintLast Go.Proofs.YteejnblkbcekmaaDoorW.PrintMore

def bytesTo (N m : Nat) : List Int := (List.range m).map fun j => ((N / 256 ^ (m - 1 - j) % 256 : Nat) : Int)

theorem bytesTo_succ (N i : Nat) : bytesTo N (i + 1) = [((N / 256 ^ i % 256 : Nat) : Int)] ++ bytesTo N i := by
  unfold bytesTo
  rw [List.range_succ_eq_map, List.map_cons, List.map_map]
  simp only [Nat.add_sub_cancel, Nat.sub_zero, List.singleton_append, List.cons.injEq, true_and]
  apply List.map_congr_left
  intro j _
  simp only [Function.comp]
  rw [show i - (j + 1) = i - 1 - j by omega]

theorem fixed_spec (N m : Nat) (hm : m ≤ 7) (hN : N < 9223372036854775808) : ∀ (d i k : Nat), i + d = m → d < k →
    spec_EncodeFixed.l0 k ((N / 256 ^ i : Nat) : Int) (m : Int) (strOfNums (bytesTo N i)) (i : Int) = if N / 256 ^ m > 0 then some (⟨#[]⟩ : ByteArray) else some (strOfNums (bytesTo N m)) := by
  intro d
  induction d with
  | zero =>
    intro i k hi hk
    obtain ⟨k, rfl⟩ : ∃ q, k = q + 1 := ⟨k - 1, by omega⟩
    obtain rfl : i = m := by omega
    simp only [spec_EncodeFixed.l0]
    rw [if_neg (by omega)]
    obtain ⟨Q, hQ⟩ : ∃ Q, N / 256 ^ i = Q := ⟨_, rfl⟩
    rw [hQ]
    by_cases h : Q > 0
    · rw [if_pos h, if_pos (by omega)]
    · rw [if_neg h, if_neg (by omega)]
  | succ d ih =>
    intro i k hi hk
    obtain ⟨k, rfl⟩ : ∃ q, k = q + 1 := ⟨k - 1, by omega⟩
    have hle : N / 256 ^ i ≤ N := Nat.div_le_self _ _
    have ih' := ih (i + 1) k (by omega) (by omega)
    rw [bytesTo_succ, Nat.pow_succ, ← Nat.div_div_eq_div_mul, show ((i + 1 : Nat) : Int) = (i : Int) + 1 from by omega] at ih'
    obtain ⟨Q, hQ⟩ : ∃ Q, N / 256 ^ i = Q := ⟨_, rfl⟩
    rw [hQ] at hle ih' ⊢
    have h0 : (0 : Int) ≤ (Q : Int) := by omega
    have hlen : (bytesTo N i).length = i := by simp [bytesTo]
    simp only [spec_EncodeFixed.l0]
    rw [if_pos (by omega), Int.tdiv_eq_ediv_of_nonneg h0, Int.tmod_eq_emod_of_nonneg h0]
    simp only [Option.bind_some]
    rw [strOfNums_size, strOfNums_size, if_pos (by simp only [List.length_cons, List.length_nil]; omega), w64 (by omega) (by omega), w64 (by omega) (by omega)]
    have e1 : ((Q : Int) / 256) = ((Q / 256 : Nat) : Int) := by omega
    have e2 : ((Q : Int) % 256) % 256 = ((Q % 256 : Nat) : Int) := by omega
    rw [e1, e2, ← strOfNums_append]
    exact ih'

theorem shr_nat (N c : Nat) (hc : c ≤ 64) : shr .i64 (N : Int) (c : Int) = ((N / 2 ^ c : Nat) : Int) := by
  unfold shr
  rw [Nat.min_eq_left (by simp [IntKind.bits]; omega), Int.toNat_natCast]
  push_cast
  rfl

theorem pow8 (m : Nat) : 2 ^ (8 * m) = 256 ^ m := by rw [Nat.pow_mul]

theorem fixed_impl (N m : Nat) (hm : m ≤ 7) (hN : N < 9223372036854775808) : ∀ (d i k : Nat), i + d = m → d < k →
    impl_EncodeFixed.l0 k (N : Int) (m : Int) ((List.range i).map (fun j => ((N / 256 ^ (m - 1 - j) % 256 : Nat) : Int)) ++ List.replicate (m - i) 0) (m : Int) (i : Int) = some (strOfNums (bytesTo N m)) := by
  intro d
  induction d with
  | zero =>
    intro i k hi hk
    obtain ⟨k, rfl⟩ : ∃ q, k = q + 1 := ⟨k - 1, by omega⟩
    obtain rfl : i = m := by omega
    simp only [impl_EncodeFixed.l0]
    rw [if_neg (by omega)]
    simp [bytesTo]
  | succ d ih =>
    intro i k hi hk
    obtain ⟨k, rfl⟩ : ∃ q, k = q + 1 := ⟨k - 1, by omega⟩
    simp only [impl_EncodeFixed.l0]
    have e : wrap64 (8 * wrap64 (wrap64 ((m : Int) - 1) - (i : Int))) = ((8 * (m - 1 - i) : Nat) : Int) := by
      rw [w64 (x := (m : Int) - 1) (by omega) (by omega), w64 (x := (m : Int) - 1 - i) (by omega) (by omega), w64 (by omega) (by omega)]
      omega
    rw [if_pos (by omega), e, if_pos (by omega), if_pos (by omega), if_pos (by simp; omega), shr_nat _ _ (by omega), pow8, w64 (by omega) (by omega), Int.toNat_natCast]
    have e2 : ((N / 256 ^ (m - 1 - i) : Nat) : Int) % 256 = ((N / 256 ^ (m - 1 - i) % 256 : Nat) : Int) := by rw [Int.natCast_emod]; rfl
    rw [e2]
    have f := fill_step (g := fun j => ((N / 256 ^ (m - 1 - j) % 256 : Nat) : Int)) (show i < m by omega)
    rw [f]
    have ih' := ih (i + 1) k (by omega) (by omega)
    rw [show ((i + 1 : Nat) : Int) = (i : Int) + 1 from by omega] at ih'
    exact ih'

theorem or_byte {x b : Int} (x0 : 0 ≤ x) (x1 : x ≤ 281474976710656) (b0 : 0 ≤ b) (b1 : b ≤ 255) : bits .or .i64 (x * 256) b = x * 256 + b := by
  rw [or_int (by omega) (by omega) b0 (by omega), nat_join 8 _ _ (by omega) (by omega)]
  omega


theorem app_list (xs : List Int) (t : ByteArray) : (strOfNums xs ++ t).data.toList = (xs.map fun n => UInt8.ofNat n.toNat) ++ t.data.toList := by
  rw [ByteArray.data_append, Array.toList_append, strOfNums_data]
theorem app_size (xs : List Int) (t : ByteArray) : (strOfNums xs ++ t).size = xs.length + t.size := by
  rw [ByteArray.size_append, strOfNums_size]
theorem bt_app (xs : List Int) (hx : ∀ x ∈ xs, 0 ≤ x ∧ x ≤ 255) (t : ByteArray) (j : Nat) (hj : j < xs.length) : bt (strOfNums xs ++ t) (j : Int) = xs.getD j 0 := by
  obtain ⟨b, h1, h2⟩ := bt_list (strOfNums xs ++ t) j (by rw [app_size]; omega)
  rw [h2]
  rw [app_list, List.getElem?_append_left (by rw [List.length_map]; exact hj), List.getElem?_map, List.getElem?_eq_getElem hj] at h1
  simp only [Option.map_some, Option.some.injEq] at h1
  have hr := hx _ (List.getElem_mem hj)
  rw [← h1, List.getD_eq_getElem?_getD, List.getElem?_eq_getElem hj, UInt8.toNat_ofNat']
  simp only [Option.getD_some]
  omega

/-- The number that the first bytes spell. -/
def preV (B : Nat → Nat) : Nat → Nat
  | 0 => 0
  | i + 1 => preV B i * 256 + B i
theorem preV_lt (B : Nat → Nat) (hB : ∀ j, B j ≤ 255) : ∀ i, preV B i < 256 ^ i
  | 0 => by show 0 < 1; omega
  | i + 1 => by
    have h := preV_lt B hB i
    have h2 := hB i
    rw [Nat.pow_succ]
    show preV B i * 256 + B i < _
    omega
theorem dec_fixed (s : ByteArray) (m : Nat) (hm : m ≤ 7) (hs : m ≤ s.size) : ∀ (d i K : Nat), i + d = m → d < K →
    impl_DecodeFixed.l0 K s ((preV (fun j => (bt s (j : Int)).toNat) i : Nat) : Int) (m : Int) (i : Int) = some (((preV (fun j => (bt s (j : Int)).toNat) m : Nat) : Int), true) := by
  have hB : ∀ j : Nat, (bt s (j : Int)).toNat ≤ 255 := fun j => by have := bt_range s (j : Int); omega
  intro d
  induction d with
  | zero =>
    intro i K hi hK
    obtain ⟨K, rfl⟩ : ∃ q, K = q + 1 := ⟨K - 1, by omega⟩
    obtain rfl : i = m := by omega
    simp only [impl_DecodeFixed.l0]
    rw [if_neg (by omega)]
  | succ d ih =>
    intro i K hi hK
    obtain ⟨K, rfl⟩ : ∃ q, K = q + 1 := ⟨K - 1, by omega⟩
    have hb := bt_range s (i : Int)
    have hlt := preV_lt (fun j => (bt s (j : Int)).toNat) hB i
    have hp : 256 ^ i ≤ 281474976710656 := by
      have h6 : (256 : Nat) ^ 6 = 281474976710656 := by decide +kernel
      have h7 : (256 : Nat) ^ i ≤ 256 ^ 6 := Nat.pow_le_pow_right (by decide) (by omega)
      omega
    have e := ih (i + 1) K (by omega) (by omega)
    have es : preV (fun j => (bt s (j : Int)).toNat) (i + 1) = preV (fun j => (bt s (j : Int)).toNat) i * 256 + (bt s (i : Int)).toNat := rfl
    generalize preV (fun j => (bt s (j : Int)).toNat) i = P at hlt es
    simp only [impl_DecodeFixed.l0]
    rw [if_pos (by omega), if_pos (by omega), if_pos (by omega), w64 (x := (P : Int) * 256) (by omega) (by omega), w64 (x := bt s (i : Int)) (by omega) (by omega), or_byte (by omega) (by omega) hb.1 hb.2, w64 (x := (i : Int) + 1) (by omega) (by omega)]
    rw [es] at e
    rw [show (P : Int) * 256 + bt s (i : Int) = ((P * 256 + (bt s (i : Int)).toNat : Nat) : Int) by omega]
    exact e
theorem dec_total (s : ByteArray) (hs : s.size ≤ 1000) (wd : Int) (h0 : -1 ≤ wd) (K : Nat) (hK : 20 ≤ K) : ∃ y is, impl_DecodeFixed.f K s wd = some (y, is) := by
  obtain ⟨K, rfl⟩ : ∃ q, K = q + 1 := ⟨K - 1, by omega⟩
  unfold impl_DecodeFixed.f
  by_cases h1 : wd < 1
  · rw [if_pos h1]
    exact ⟨0, false, rfl⟩
  · rw [if_neg h1]
    by_cases h7 : wd > 7
    · rw [if_pos h7]
      exact ⟨0, false, rfl⟩
    · rw [if_neg h7]
      by_cases hl : (s.size : Int) < wd
      · rw [decide_eq_true hl]
        exact ⟨0, false, rfl⟩
      · rw [decide_eq_false hl]
        obtain ⟨m, rfl⟩ := Int.eq_ofNat_of_zero_le (show 0 ≤ wd by omega)
        exact ⟨_, _, dec_fixed s m (by omega) (by omega) m 0 K (by omega) (by omega)⟩
theorem preV_bytes (N m : Nat) (hN : N < 256 ^ m) (B : Nat → Nat) (hB : ∀ j, j < m → B j = N / 256 ^ (m - 1 - j) % 256) : ∀ i, i ≤ m → preV B i = N / 256 ^ (m - i)
  | 0, _ => by
    rw [Nat.sub_zero, Nat.div_eq_of_lt hN]
    rfl
  | i + 1, h => by
    have e := preV_bytes N m hN B hB i (by omega)
    show preV B i * 256 + B i = _
    rw [e, hB i (by omega), show m - i = (m - 1 - i) + 1 by omega, show m - (i + 1) = m - 1 - i by omega, Nat.pow_succ, ← Nat.div_div_eq_div_mul]
    omega
theorem in_is (a b c : Int) : spec_l1In.f a b c = some (decide (b ≤ a ∧ a ≤ c)) := by
  unfold spec_l1In.f
  by_cases h : a ≥ b
  · rw [if_pos h]; simp [h]
  · rw [if_neg h]
    have : ¬ (b ≤ a ∧ a ≤ c) := by omega
    simp [this]

theorem fixed_round (v wd : Int) (v0 : -9223372036854775808 ≤ v) (v1 : v ≤ 9223372036854775807) (h0 : -1 ≤ wd) (h8 : wd ≤ 8) (t : ByteArray) (ht : t.size ≤ 40) (K : Nat) (hK : 60 ≤ K) :
    ∃ f y is g, impl_EncodeFixed.f K v wd = some f ∧ f.size ≤ 7 ∧ impl_DecodeFixed.f K (f ++ t) wd = some (y, is) ∧ spec_EncodeFixed.f K v wd = some g ∧ ((f.toList = [] ∧ g.toList = []) ∨ (f.toList ≠ [] ∧ g.toList ≠ [] ∧ is = true ∧ y = v ∧ (f.size : Int) = wd)) := by
  have hempty : (⟨#[]⟩ : ByteArray).toList = [] := by rw [ByteArray.toList_eq]
  have none_ : impl_EncodeFixed.f K v wd = some (⟨#[]⟩ : ByteArray) → spec_EncodeFixed.f K v wd = some (⟨#[]⟩ : ByteArray) → ∃ f y is g, impl_EncodeFixed.f K v wd = some f ∧ f.size ≤ 7 ∧ impl_DecodeFixed.f K (f ++ t) wd = some (y, is) ∧ spec_EncodeFixed.f K v wd = some g ∧ ((f.toList = [] ∧ g.toList = []) ∨ (f.toList ≠ [] ∧ g.toList ≠ [] ∧ is = true ∧ y = v ∧ (f.size : Int) = wd)) := by
    intro e1 e2
    obtain ⟨y, is, e3⟩ := dec_total ((⟨#[]⟩ : ByteArray) ++ t) (by rw [ByteArray.size_append]; show 0 + t.size ≤ 1000; omega) wd h0 K (by omega)
    exact ⟨_, y, is, _, e1, by show 0 ≤ 7; omega, e3, e2, Or.inl ⟨hempty, hempty⟩⟩
  obtain ⟨K, rfl⟩ : ∃ q, K = q + 1 := ⟨K - 1, by omega⟩
  by_cases h1 : 1 ≤ wd
  · by_cases h7 : wd ≤ 7
    · have eI : ∀ b, impl_EncodeFixed.f (K + 1) v wd = b ↔ (if v < 0 then impl_EncodeFixed.j0 (K + 1) v wd true else (if 0 ≤ (wrap64 (8 * wd)) then (impl_EncodeFixed.j0 (K + 1) v wd ((shr .i64 v (wrap64 (8 * wd))) != 0)) else (none))) = b := by
        intro b
        unfold impl_EncodeFixed.f
        rw [if_neg (by omega), if_neg (by omega)]
      have eS : spec_EncodeFixed.f (K + 1) v wd = spec_EncodeFixed.j0 (K + 1) v wd (decide (v < 0)) := by
        unfold spec_EncodeFixed.f
        rw [in_is, decide_eq_true ⟨h1, h7⟩]
        simp only [Option.bind_some]
        rw [if_pos trivial]
      by_cases hv : v < 0
      · refine none_ ((eI _).2 ?_) ?_
        · rw [if_pos hv]
          rfl
        · rw [eS, decide_eq_true hv]
          rfl
      · obtain ⟨N, rfl⟩ := Int.eq_ofNat_of_zero_le (show 0 ≤ v by omega)
        obtain ⟨m, rfl⟩ := Int.eq_ofNat_of_zero_le (show 0 ≤ wd by omega)
        have hs := fixed_spec N m (by omega) (by omega) m 0 K (by omega) (by omega)
        have hi := fixed_impl N m (by omega) (by omega) m 0 K (by omega) (by omega)
        have es : shr .i64 (N : Int) (8 * (m : Int)) = ((N / 256 ^ m : Nat) : Int) := by
          rw [← pow8, ← shr_nat _ _ (by omega)]
          push_cast
          rfl
        have e0 : strOfNums (bytesTo N 0) = (⟨#[]⟩ : ByteArray) := rfl
        rw [e0] at hs
        simp only [Nat.pow_zero, Nat.div_one] at hs
        rw [show ((0 : Nat) : Int) = 0 from rfl] at hs hi
        simp only [List.range_zero, List.map_nil, List.nil_append, Nat.sub_zero] at hi
        have eI2 : ∀ c : Bool, impl_EncodeFixed.j0 (K + 1) (N : Int) (m : Int) c = if c = true then some (⟨#[]⟩ : ByteArray) else some (strOfNums (bytesTo N m)) := by
          intro c
          simp only [impl_EncodeFixed.j0]
          cases c
          · rw [if_neg (by decide), if_pos (by omega), if_pos (by omega)]
            simp only [Option.bind_some, List.length_replicate, Int.toNat_natCast]
            exact hi
          · rfl
        have eS2 : spec_EncodeFixed.f (K + 1) (N : Int) (m : Int) = if N / 256 ^ m > 0 then some (⟨#[]⟩ : ByteArray) else some (strOfNums (bytesTo N m)) := by
          rw [eS, decide_eq_false hv]
          simp only [spec_EncodeFixed.j0]
          rw [if_neg (by decide)]
          exact hs
        have hw : wrap64 (8 * (m : Int)) = 8 * (m : Int) := w64 (by omega) (by omega)
        by_cases hz : N / 256 ^ m > 0
        · refine none_ ((eI _).2 ?_) ?_
          · rw [if_neg hv, hw, if_pos (by omega), es, eI2, if_pos]
            rw [bne_iff_ne]
            generalize N / 256 ^ m = Q at hz
            omega
          · rw [eS2, if_pos hz]
        · have hq : N / 256 ^ m = 0 := by
            generalize N / 256 ^ m = Q at hz
            omega
          have hlt : N < 256 ^ m := by
            have := Nat.div_add_mod N (256 ^ m)
            rw [hq, Nat.mul_zero, Nat.zero_add] at this
            rw [← this]
            exact Nat.mod_lt _ (Nat.pow_pos (by decide))
          have hlen : (bytesTo N m).length = m := by
            unfold bytesTo
            rw [List.length_map, List.length_range]
          have hne : (strOfNums (bytesTo N m)).toList ≠ [] := by
            intro q
            rw [ByteArray.toList_eq] at q
            have := congrArg List.length q
            rw [strOfNums_data, List.length_map, hlen] at this
            simp at this
            omega
          have hrange : ∀ x ∈ bytesTo N m, 0 ≤ x ∧ x ≤ 255 := by
            intro x hx
            obtain ⟨j, -, rfl⟩ := List.mem_map.1 hx
            generalize N / 256 ^ (m - 1 - j) = Q
            omega
          have hdec : impl_DecodeFixed.f (K + 1) (strOfNums (bytesTo N m) ++ t) (m : Int) = some ((N : Int), true) := by
            have hsz := app_size (bytesTo N m) t
            rw [hlen] at hsz
            unfold impl_DecodeFixed.f
            rw [if_neg (by omega), if_neg (by omega), decide_eq_false (by omega)]
            simp only [impl_DecodeFixed.j0]
            rw [if_neg (by decide)]
            have e := dec_fixed (strOfNums (bytesTo N m) ++ t) m (by omega) (by omega) m 0 K (by omega) (by omega)
            have ep := preV_bytes N m hlt (fun j => (bt (strOfNums (bytesTo N m) ++ t) (j : Int)).toNat) (by
              intro j hj
              show (bt (strOfNums (bytesTo N m) ++ t) (j : Int)).toNat = _
              rw [bt_app _ hrange t j (by rw [hlen]; exact hj)]
              unfold bytesTo
              rw [List.getD_eq_getElem?_getD, List.getElem?_map, List.getElem?_range hj]
              simp only [Option.map_some, Option.getD_some, Int.toNat_natCast]) m (Nat.le_refl _)
            rw [Nat.sub_self, Nat.pow_zero, Nat.div_one] at ep
            rw [ep] at e
            exact e
          refine ⟨strOfNums (bytesTo N m), N, true, strOfNums (bytesTo N m), (eI _).2 ?_, ?_, hdec, ?_, Or.inr ⟨hne, hne, rfl, rfl, ?_⟩⟩
          · rw [if_neg hv, hw, if_pos (by omega), es, eI2, hq]
            rfl
          · rw [strOfNums_size, hlen]
            omega
          · rw [eS2, if_neg hz]
          · rw [strOfNums_size, hlen]
    · refine none_ ?_ ?_
      · unfold impl_EncodeFixed.f
        rw [if_neg (by omega), if_pos (by omega)]
        rfl
      · unfold spec_EncodeFixed.f
        rw [in_is, decide_eq_false (by omega)]
        rfl
  · refine none_ ?_ ?_
    · unfold impl_EncodeFixed.f
      rw [if_pos (by omega)]
      rfl
    · unfold spec_EncodeFixed.f
      rw [in_is, decide_eq_false (by omega)]
      rfl
end Go.Proofs.YteejnblkbcekmaaDoor.Num
