/- Numbers of a variable width: what is encoded is decoded again, whatever follows. Conditions: the bounds that stand in each. -/
import Derived.Test.YteejnblkbcekmaaDoorFix
import Derived.Test.YteejnblkbcekmaaDoorPb2
import Derived.Laws.BitsAllLaws
import Derived.Test.YteejnblkbcekmaaDoorPb2
namespace Go.Proofs.YteejnblkbcekmaaDoor.Num
set_option linter.unusedVariables false
set_option linter.unusedSimpArgs false
open Go Go.RowKit Go.Proofs.YteejnblkbcekmaaDoor.P Go.Proofs.YteejnblkbcekmaaDoor.Bits Go.Proofs.YteejnblkbcekmaaDoorW.PrintWords Go.Proofs.YteejnblkbcekmaaDoorW.PrintLast Go.Proofs.YteejnblkbcekmaaDoorW.PrintMore

theorem or128_all : ∀ b : Fin 256, bits .or .u8 (b.val : Int) 128 = 128 + (b.val : Int) % 128 := by decide +kernel
theorem or128 {n : Int} (h0 : 0 ≤ n) : bits .or .u8 (n % 256) 128 = 128 + n % 128 := by
  have q := or128_all ⟨(n % 256).toNat, by omega⟩
  rw [show (((⟨(n % 256).toNat, by omega⟩ : Fin 256).val : Nat) : Int) = n % 256 from by simp; omega] at q
  rw [q]
  omega
theorem and127_all : ∀ b : Fin 256, bits .and .u8 (b.val : Int) 127 = (b.val : Int) % 128 := by decide +kernel
theorem and127 {n : Int} (h0 : 0 ≤ n) (h1 : n ≤ 255) : bits .and .u8 n 127 = n % 128 := by
  have q := and127_all ⟨n.toNat, by omega⟩
  rw [show (((⟨n.toNat, by omega⟩ : Fin 256).val : Nat) : Int) = n from by simp; omega] at q
  exact q

/-- What the encoder writes. -/
def encN : Nat → Nat → List Int
  | 0, V => [(V : Int)]
  | f + 1, V => if 128 ≤ V then (128 + ((V % 128 : Nat) : Int)) :: encN f (V / 128) else [(V : Int)]
theorem encN_range : ∀ (d V : Nat), V < 128 ^ (d + 1) → ∀ x ∈ encN d V, 0 ≤ x ∧ x ≤ 255
  | 0, V, h, x, hx => by
    rw [List.mem_singleton.1 hx]
    have : V < 128 := by simpa using h
    omega
  | d + 1, V, h, x, hx => by
    unfold encN at hx
    split at hx
    · rcases List.mem_cons.1 hx with q | q
      · omega
      · exact encN_range d (V / 128) (by rw [Nat.pow_succ] at h; omega) x q
    · rw [List.mem_singleton.1 hx]
      omega
theorem encN_len : ∀ (d V : Nat), 1 ≤ (encN d V).length ∧ (encN d V).length ≤ d + 1
  | 0, V => ⟨Nat.le_refl _, Nat.le_refl _⟩
  | d + 1, V => by
    unfold encN
    have := encN_len d (V / 128)
    split
    · rw [List.length_cons]
      omega
    · rw [List.length_singleton]
      omega
theorem enc_loop : ∀ (d V K : Nat) (xs : List Int), V < 128 ^ (d + 1) → V ≤ 562949953421311 → d < K → xs.length + d ≤ 100 → impl_EncodeVarint.l0 K (V : Int) xs = some (strOfNums (xs ++ encN d V)) := by
  intro d
  induction d with
  | zero =>
    intro V K xs h1 _ hk hl
    obtain ⟨K, rfl⟩ : ∃ q, K = q + 1 := ⟨K - 1, by omega⟩
    have h1' : V < 128 := by simpa using h1
    simp only [impl_EncodeVarint.l0]
    rw [if_neg (by omega), if_pos (by omega), show (V : Int) % 256 = (V : Int) by omega]
    rfl
  | succ d ih =>
    intro V K xs h1 hb hk hl
    obtain ⟨K, rfl⟩ : ∃ q, K = q + 1 := ⟨K - 1, by omega⟩
    simp only [impl_EncodeVarint.l0]
    unfold encN
    by_cases hn : 128 ≤ V
    · rw [Nat.pow_succ] at h1
      rw [if_pos hn, if_pos (by omega), if_pos (by omega), or128 (by omega), show (V : Int) / 128 = ((V / 128 : Nat) : Int) by omega, show (128 : Int) + (V : Int) % 128 = 128 + ((V % 128 : Nat) : Int) by omega]
      rw [ih (V / 128) K (xs ++ [128 + ((V % 128 : Nat) : Int)]) (by omega) (by omega) (by omega) (by rw [List.length_append, List.length_singleton]; omega)]
      simp
    · rw [if_neg hn, if_neg (by omega), if_pos (by omega), show (V : Int) % 256 = (V : Int) by omega]

theorem or_seven (acc b i : Nat) (hi7 : i ≤ 6) (ha : acc < 128 ^ i) (hb : b < 128) : bits .or .i64 (acc : Int) (shl .i64 (b : Int) (7 * (i : Int))) = ((acc + b * 128 ^ i : Nat) : Int) := by
  have ep : (128 : Nat) ^ i = 2 ^ (7 * i) := by rw [Nat.pow_mul]
  have hb2 : b < 2 ^ 7 := by omega
  have hm : 2 ^ (7 * i) * b < 2 ^ (7 * i) * 2 ^ 7 := Nat.mul_lt_mul_of_pos_left hb2 (Nat.two_pow_pos _)
  rw [← Nat.pow_add] at hm
  have hm2 : 2 ^ (7 * i) * b < 2 ^ 63 := Nat.lt_of_lt_of_le hm (Nat.pow_le_pow_right (by decide) (by omega))
  have es : shl .i64 (b : Int) (7 * (i : Int)) = ((2 ^ (7 * i) * b : Nat) : Int) := by
    unfold shl
    rw [Nat.min_eq_left (by simp [IntKind.bits]; omega), show (7 * (i : Int)).toNat = 7 * i by omega]
    have e : ((b : Int) * 2 ^ (7 * i)) = ((2 ^ (7 * i) * b : Nat) : Int) := by push_cast; rw [Int.mul_comm]
    rw [e]
    exact wrap_nat _ hm2
  rw [ep] at ha ⊢
  have ha2 : acc < 2 ^ 63 := Nat.lt_of_lt_of_le ha (Nat.pow_le_pow_right (by decide) (by omega))
  rw [es, or_nat _ _ ha2 hm2, Nat.or_comm, ← Nat.two_pow_add_eq_or_of_lt ha b, Nat.mul_comm, Nat.add_comm]

theorem dec_loop (s : ByteArray) (hs : s.size ≤ 1000) : ∀ (d i acc V K : Nat), i + d = 6 → acc < 128 ^ i → V < 128 ^ (d + 1) → (i = 0 ∨ V ≠ 0) → 2 * d + 4 ≤ K → i + (encN d V).length ≤ s.size → (∀ j, j < (encN d V).length → bt s ((i + j : Nat) : Int) = (encN d V).getD j 0) →
    impl_DecodeVarint.l0 K s (acc : Int) (i : Int) = some (((acc + V * 128 ^ i : Nat) : Int), ((i + (encN d V).length : Nat) : Int)) := by
  have last : ∀ (d i acc V K : Nat), i + d = 6 → acc < 128 ^ i → V < 128 → (i = 0 ∨ V ≠ 0) → 4 ≤ K → i + 1 ≤ s.size → bt s (i : Int) = (V : Int) →
      impl_DecodeVarint.l0 K s (acc : Int) (i : Int) = some (((acc + V * 128 ^ i : Nat) : Int), ((i + 1 : Nat) : Int)) := by
    intro d i acc V K hi ha hV h0 hK hsz hb
    obtain ⟨K, rfl⟩ : ∃ q, K = q + 1 + 1 := ⟨K - 2, by omega⟩
    simp only [impl_DecodeVarint.l0]
    rw [if_pos (by omega), decide_eq_true (by omega)]
    simp only [impl_DecodeVarint.j1]
    rw [if_pos trivial, if_pos (by omega), if_pos (by omega), w64 (x := 7 * (i : Int)) (by omega) (by omega), if_pos (by omega), hb, if_pos (by omega), and127 (by omega) (by omega), show (V : Int) % 128 = (V : Int) by omega, w64 (x := (V : Int)) (by omega) (by omega), or_seven acc V i (by omega) ha hV, w64 (x := (i : Int) + 1) (by omega) (by omega)]
    by_cases hi0 : (i : Int) > 0
    · rw [if_pos hi0, if_neg (by omega)]
      rfl
    · rw [if_neg hi0]
      rfl
  intro d
  induction d with
  | zero =>
    intro i acc V K hi ha hV h0 hK hsz hb
    have hV' : V < 128 := by simpa using hV
    have h := hb 0 (by show 0 < 1; omega)
    rw [Nat.add_zero] at h
    exact last 0 i acc V K hi ha hV' h0 (by omega) hsz h
  | succ d ih =>
    intro i acc V K hi ha hV h0 hK hsz hb
    by_cases hn : 128 ≤ V
    · have eE : encN (d + 1) V = (128 + ((V % 128 : Nat) : Int)) :: encN d (V / 128) := by
        show (if 128 ≤ V then _ else _) = _
        rw [if_pos hn]
      rw [eE] at hb hsz ⊢
      have hb0 := hb 0 (by rw [List.length_cons]; omega)
      rw [Nat.add_zero] at hb0
      have hb0' : bt s (i : Int) = 128 + ((V % 128 : Nat) : Int) := hb0
      obtain ⟨K, rfl⟩ : ∃ q, K = q + 1 + 1 := ⟨K - 2, by omega⟩
      rw [List.length_cons] at hsz
      have hpi : (128 : Nat) ^ (i + 1) = 128 ^ i * 128 := Nat.pow_succ 128 i
      have hacc : acc + V % 128 * 128 ^ i < 128 ^ (i + 1) := by
        have hm : V % 128 * 128 ^ i ≤ 127 * 128 ^ i := Nat.mul_le_mul_right _ (by omega)
        rw [hpi]
        omega
      have e := ih (i + 1) (acc + V % 128 * 128 ^ i) (V / 128) K (by omega) hacc (by rw [Nat.pow_succ] at hV; omega) (Or.inr (by omega)) (by omega) (by omega) (by
        intro j hj
        have := hb (j + 1) (by rw [List.length_cons]; omega)
        rw [show i + 1 + j = i + (j + 1) by omega, this]
        rfl)
      simp only [impl_DecodeVarint.l0]
      rw [if_pos (by omega), decide_eq_true (by omega)]
      simp only [impl_DecodeVarint.j1]
      rw [if_pos trivial, if_pos (by omega), if_pos (by omega), w64 (x := 7 * (i : Int)) (by omega) (by omega), if_pos (by omega), hb0', if_neg (by omega), and127 (by omega) (by omega), show (128 + ((V % 128 : Nat) : Int)) % 128 = ((V % 128 : Nat) : Int) by omega, w64 (x := ((V % 128 : Nat) : Int)) (by omega) (by omega), or_seven acc (V % 128) i (by omega) ha (by omega), w64 (x := (i : Int) + 1) (by omega) (by omega)]
      rw [show (i : Int) + 1 = ((i + 1 : Nat) : Int) by omega, e]
      have e1 : acc + V % 128 * 128 ^ i + V / 128 * 128 ^ (i + 1) = acc + V * 128 ^ i := by
        rw [hpi, Nat.mul_comm (128 ^ i) 128, ← Nat.mul_assoc, Nat.add_assoc, ← Nat.add_mul]
        congr 2
        omega
      rw [e1, List.length_cons, show i + 1 + (encN d (V / 128)).length = i + ((encN d (V / 128)).length + 1) by omega]
    · have eE : encN (d + 1) V = [(V : Int)] := by
        show (if 128 ≤ V then _ else _) = _
        rw [if_neg hn]
      rw [eE] at hb hsz ⊢
      have h := hb 0 (by rw [List.length_singleton]; omega)
      rw [Nat.add_zero] at h
      exact last (d + 1) i acc V K hi ha (by omega) h0 (by omega) hsz h

theorem dec_any (s : ByteArray) (hs : s.size ≤ 1000) : ∀ (d i K : Nat) (acc : Int), i + d = 8 → 2 * d + 4 ≤ K → ∃ x kk, impl_DecodeVarint.l0 K s acc (i : Int) = some (x, kk) := by
  intro d
  induction d with
  | zero =>
    intro i K acc hi hK
    obtain ⟨K, rfl⟩ : ∃ q, K = q + 1 + 1 := ⟨K - 2, by omega⟩
    simp only [impl_DecodeVarint.l0]
    have hd : decide ((i : Int) < 7) = false := decide_eq_false (by omega)
    rw [hd]
    refine ⟨0, 0, ?_⟩
    split <;> rfl
  | succ d ih =>
    intro i K acc hi hK
    obtain ⟨K, rfl⟩ : ∃ q, K = q + 1 + 1 := ⟨K - 2, by omega⟩
    simp only [impl_DecodeVarint.l0]
    by_cases hsz : (i : Int) < (s.size : Int)
    · rw [if_pos hsz]
      by_cases h7 : (i : Int) < 7
      · rw [decide_eq_true h7]
        simp only [impl_DecodeVarint.j1]
        rw [if_pos trivial, if_pos (by omega), if_pos hsz, w64 (x := 7 * (i : Int)) (by omega) (by omega), if_pos (by omega), w64 (x := (i : Int) + 1) (by omega) (by omega)]
        obtain ⟨x, kk, e⟩ := ih (i + 1) K (Go.bits .or .i64 acc (shl .i64 (wrap64 (Go.bits .and .u8 (bt s (i : Int)) 127)) (7 * (i : Int)))) (by omega) (by omega)
        rw [show (i : Int) + 1 = ((i + 1 : Nat) : Int) by omega, e]
        by_cases q1 : bt s (i : Int) < 128
        · rw [if_pos q1]
          by_cases q2 : (i : Int) > 0
          · rw [if_pos q2]
            by_cases q3 : bt s (i : Int) = 0
            · rw [if_pos q3]
              exact ⟨_, _, rfl⟩
            · rw [if_neg q3]
              exact ⟨_, _, rfl⟩
          · rw [if_neg q2]
            exact ⟨_, _, rfl⟩
        · rw [if_neg q1]
          exact ⟨_, _, rfl⟩
      · rw [decide_eq_false h7]
        exact ⟨0, 0, rfl⟩
    · rw [if_neg hsz]
      exact ⟨0, 0, rfl⟩

theorem varint_round (n : Int) (t : ByteArray) (ht : t.size ≤ 40) (K : Nat) (hK : 60 ≤ K) : ∃ s x kk, impl_EncodeVarint.f K n = some s ∧ s.size ≤ 7 ∧ impl_DecodeVarint.f K (s ++ t) = some (x, kk) ∧
    ((s.toList = [] ∧ n < 0) ∨ (s.toList = [] ∧ 0 ≤ n ∧ 562949953421311 < n) ∨ (s.toList ≠ [] ∧ 0 ≤ n ∧ n ≤ 562949953421311 ∧ x = n ∧ kk = (s.size : Int))) := by
  have hempty : (⟨#[]⟩ : ByteArray).toList = [] := by rw [ByteArray.toList_eq]
  have hany : ∃ x kk, impl_DecodeVarint.f K ((⟨#[]⟩ : ByteArray) ++ t) = some (x, kk) := by
    unfold impl_DecodeVarint.f
    exact dec_any _ (by rw [ByteArray.size_append]; show 0 + t.size ≤ 1000; omega) 8 0 K 0 (by omega) (by omega)
  obtain ⟨K, rfl⟩ : ∃ q, K = q + 1 := ⟨K - 1, by omega⟩
  by_cases h0 : n < 0
  · obtain ⟨x, kk, e⟩ := hany
    refine ⟨_, x, kk, ?_, ?_, e, Or.inl ⟨hempty, h0⟩⟩
    · unfold impl_EncodeVarint.f
      rw [if_pos h0]
      rfl
    · show 0 ≤ 7
      omega
  · by_cases h1 : n > 562949953421311
    · obtain ⟨x, kk, e⟩ := hany
      refine ⟨_, x, kk, ?_, ?_, e, Or.inr (Or.inl ⟨hempty, by omega, h1⟩)⟩
      · unfold impl_EncodeVarint.f
        rw [if_neg h0, decide_eq_true h1]
        rfl
      · show 0 ≤ 7
        omega
    · obtain ⟨V, rfl⟩ := Int.eq_ofNat_of_zero_le (show 0 ≤ n by omega)
      have hp : (128 : Nat) ^ (6 + 1) = 562949953421312 := by decide +kernel
      have hV : V < 128 ^ (6 + 1) := by rw [hp]; omega
      obtain ⟨l0, l1⟩ := encN_len 6 V
      have hr := encN_range 6 V hV
      have hsz := app_size (encN 6 V) t
      have hd := dec_loop (strOfNums (encN 6 V) ++ t) (by omega) 6 0 0 V (K + 1) (by omega) (by decide) hV (Or.inl rfl) (by omega) (by omega) (by
        intro j hj
        rw [Nat.zero_add]
        exact bt_app _ hr t j hj)
      simp only [Nat.zero_add, Nat.pow_zero, Nat.mul_one] at hd
      refine ⟨strOfNums (encN 6 V), (V : Int), ((encN 6 V).length : Int), ?_, ?_, hd, Or.inr (Or.inr ⟨?_, by omega, by omega, rfl, ?_⟩)⟩
      · unfold impl_EncodeVarint.f
        rw [if_neg h0, decide_eq_false h1]
        simp only [impl_EncodeVarint.j0]
        rw [if_neg (by decide)]
        exact enc_loop 6 V K [] hV (by omega) (by omega) (by simp)
      · rw [strOfNums_size]
        omega
      · intro q
        rw [ByteArray.toList_eq] at q
        have := congrArg List.length q
        rw [strOfNums_data, List.length_map, List.length_nil] at this
        omega
      · rw [strOfNums_size]
end Go.Proofs.YteejnblkbcekmaaDoor.Num
