/- The law FnExactDecodeVarint: its plain function answers true for all its arguments. No conditions but those of the statement. -/
import Derived.Test.YtoolcfepploeiaaVar
import Derived.Test.YtoolcfepploeiaaPLFnExactDecodeVarint
import Derived.Test.YtoolcfepploeiaaG1
import Derived.Test.YtoolcfepploeiaaPLFnExactDecodeVarint
import Derived.Test.YtoolcfepploeiaaPa1
import Derived.Test.YtoolcfepploeiaaPa2
namespace Go.Proofs.Ytoolcfepploeiaa.Pure
set_option linter.unusedVariables false
set_option linter.unusedSimpArgs false
open Go Go.RowKit Go.Proofs.Ytoolcfepploeiaa.P Go.Proofs.Ytoolcfepploeiaa.Bits Go.Proofs.Ytoolcfepploeiaa.Var Go.Proofs.YtoolcfepploeiaaW.PrintWords Go.Proofs.YtoolcfepploeiaaW.PrintLast Go.Proofs.YtoolcfepploeiaaW.PrintMore

theorem and127_all : ∀ b : Fin 256, bits .and .u8 (b.val : Int) 127 = (b.val : Int) % 128 := by decide +kernel
theorem and127 {n : Int} (h0 : 0 ≤ n) (h1 : n ≤ 255) : bits .and .u8 n 127 = n % 128 := by
  have q := and127_all ⟨n.toNat, by omega⟩
  rw [show (((⟨n.toNat, by omega⟩ : Fin 256).val : Nat) : Int) = n from by simp; omega] at q
  exact q

def Bt (s : ByteArray) (j : Nat) : Int := bt s (j : Int)
theorem Bt_range (s : ByteArray) : ∀ j, 0 ≤ Bt s j ∧ Bt s j ≤ 255 := fun j => bt_range s (j : Int)

theorem seg_bytes (s : ByteArray) : ∀ (c a : Nat), a + c ≤ s.size → (seg (Bt s) a c).map (fun n => UInt8.ofNat n.toNat) = (s.extract a (a + c)).data.toList := by
  intro c
  induction c with
  | zero =>
    intro a _
    simp [seg]
  | succ c ih =>
    intro a h
    have hlt : a < s.size := by omega
    have e1 : (s.extract a (a + (c + 1))).data.toList = (s.data[a]'hlt) :: (s.extract (a + 1) (a + 1 + c)).data.toList := by
      rw [ByteArray.data_extract, ByteArray.data_extract, Array.toList_extract, Array.toList_extract, List.extract_eq_take_drop, List.extract_eq_take_drop, show a + (c + 1) - a = c + 1 by omega, show a + 1 + c - (a + 1) = c by omega, List.drop_eq_getElem_cons (by simpa using hlt), List.take_succ_cons]
      simp
    rw [e1, seg, List.map_cons, ih (a + 1) (by omega)]
    congr 1
    unfold Bt bt
    have hlt' : (a : Int).toNat < s.size := by rw [Int.toNat_natCast]; exact hlt
    rw [dif_pos hlt']
    simp
    rfl

theorem test_is (s : ByteArray) (c : Nat) (h : c + 1 ≤ s.size) (hc : c ≤ 6) : ((strOfNums (encL 7 (vl (Bt s) 0 (c + 1)))).toList = (s.extract 0 (c + 1)).toList) ↔ G (Bt s) 0 (c + 1) := by
  rw [← Var.shape (Bt s) (Bt_range s) c 7 0 (by omega), ByteArray.toList_eq, ByteArray.toList_eq, strOfNums_data]
  have e := seg_bytes s (c + 1) 0 (by omega)
  rw [Nat.zero_add] at e
  rw [← e]
  have hl := vl_lt (Bt s) (c + 1) 0
  have hp : (128 : Int) ^ (c + 1) ≤ 128 ^ (7 + 1) := by
    have := Nat.pow_le_pow_right (show 0 < 128 by decide) (show c + 1 ≤ 7 + 1 by omega)
    exact_mod_cast this
  constructor
  · exact nums_inj _ _ (encL_range 7 _ (vl_nonneg _ _ _) (by omega)) (seg_range _ (Bt_range s) _ _)
  · intro q
    rw [q]

theorem pow_49 {c : Nat} (hc : c ≤ 7) : (128 : Int) ^ c ≤ 562949953421312 := by
  have hN : 128 ^ c ≤ 128 ^ 7 := Nat.pow_le_pow_right (show 0 < 128 by decide) hc
  have hI : ((128 ^ c : Nat) : Int) ≤ ((128 ^ 7 : Nat) : Int) := Int.ofNat_le.mpr hN
  rw [Int.natCast_pow, Int.natCast_pow] at hI
  have e : ((128 : Nat) : Int) ^ 7 = 562949953421312 := by decide +kernel
  rw [e] at hI
  exact hI

/-- the reference's inner loop: Horner from place j down -/
theorem horner (s : ByteArray) (i : Nat) (hi : i < s.size) (hi7 : i ≤ 6) (k0 : Nat) : ∀ (j k : Nat), j ≤ i + 1 → k = k0 + j + 1 →
    spec_DecodeVarint.l1 k s ((i : Int) + 1) (vl (Bt s) j (i + 1 - j)) ((j : Int) - 1) = spec_DecodeVarint.l1 (k0 + 1) s ((i : Int) + 1) (vl (Bt s) 0 (i + 1)) (-1) := by
  intro j
  induction j with
  | zero =>
    intro k _ hk
    subst hk
    rfl
  | succ j ih =>
    intro k hj hk
    subst hk
    have hb := Bt_range s j
    have v0 := vl_nonneg (Bt s) (i + 1 - (j + 1)) (j + 1)
    have v1 := vl_lt (Bt s) (i + 1 - (j + 1)) (j + 1)
    have v2 := pow_49 (show i + 1 - (j + 1) ≤ 7 by omega)
    rw [show k0 + (j + 1) + 1 = (k0 + j + 1) + 1 by omega, spec_DecodeVarint.l1, show ((j + 1 : Nat) : Int) - 1 = (j : Int) by omega, if_pos (by omega), if_pos (by omega), if_pos (by omega)]
    have eb : bt s (j : Int) = Bt s j := rfl
    rw [eb, w64 (x := Bt s j) (by omega) (by omega), Int.tmod_eq_emod_of_nonneg hb.1, w64 (x := vl (Bt s) (j + 1) (i + 1 - (j + 1)) * 128) (by omega) (by omega), w64 (x := _ + _) (by omega) (by omega), w64 (x := (j : Int) - 1) (by omega) (by omega)]
    have e := ih (k0 + j + 1) (by omega) rfl
    rw [show i + 1 - j = (i + 1 - (j + 1)) + 1 by omega, vl] at e
    rw [show vl (Bt s) (j + 1) (i + 1 - (j + 1)) * 128 + Bt s j % 128 = Bt s j % 128 + 128 * vl (Bt s) (j + 1) (i + 1 - (j + 1)) by omega]
    exact e

theorem spec_step (s : ByteArray) (i : Nat) (hi : i < s.size) (hi7 : i ≤ 6) (hs : s.size ≤ 1048576) (k0 : Nat) (hk : 20 ≤ k0) :
    (G (Bt s) 0 (i + 1) → spec_DecodeVarint.l0 (k0 + 1 + (i + 1) + 1 + 1) s ((i : Int) + 1) = some (vl (Bt s) 0 (i + 1), (i : Int) + 1)) ∧
    (¬ G (Bt s) 0 (i + 1) → spec_DecodeVarint.l0 (k0 + 1 + (i + 1) + 1 + 1) s ((i : Int) + 1) = spec_DecodeVarint.l0 k0 s (((i + 1 : Nat) : Int) + 1)) := by
  have h := horner s i hi hi7 k0 (i + 1) (k0 + (i + 1) + 1) (by omega) rfl
  rw [show i + 1 - (i + 1) = 0 by omega, show vl (Bt s) (i + 1) 0 = 0 from rfl, show ((i + 1 : Nat) : Int) - 1 = (i : Int) by omega] at h
  have v0 := vl_nonneg (Bt s) (i + 1) 0
  have v1 := vl_lt (Bt s) (i + 1) 0
  have v2 := pow_49 (show i + 1 ≤ 7 by omega)
  have e : spec_DecodeVarint.l0 (k0 + 1 + (i + 1) + 1 + 1) s ((i : Int) + 1) = spec_DecodeVarint.l1 (k0 + 1) s ((i : Int) + 1) (vl (Bt s) 0 (i + 1)) (-1) := by
    rw [spec_DecodeVarint.l0, if_pos (by omega), decide_eq_true (show (i : Int) + 1 ≤ (s.size : Int) by omega), spec_DecodeVarint.j1, if_pos rfl, w64 (by omega) (by omega), show (i : Int) + 1 - 1 = (i : Int) by omega, show k0 + 1 + (i + 1) = k0 + (i + 1) + 1 by omega]
    exact h
  have hp : (128 : Int) ^ (i + 1) ≤ 128 ^ (7 + 1) := by
    have := Nat.pow_le_pow_right (show 0 < 128 by decide) (show i + 1 ≤ 7 + 1 by omega)
    exact_mod_cast this
  have en : spec_EncodeVarint.f k0 (vl (Bt s) 0 (i + 1)) = some (strOfNums (encL 7 (vl (Bt s) 0 (i + 1)))) := by
    unfold spec_EncodeVarint.f
    rw [l1In_is, decide_eq_true (show 0 ≤ vl (Bt s) 0 (i + 1) ∧ vl (Bt s) 0 (i + 1) ≤ 562949953421311 by omega)]
    simp only [Option.bind_some, if_true]
    rw [enc_is 7 k0 _ [] v0 (by omega) (by omega) (by omega) (by simp)]
    rfl
  have ht := test_is s i (by omega) hi7
  rw [e]
  simp only [spec_DecodeVarint.l1]
  rw [if_neg (by decide), en]
  simp only [Option.bind_some]
  rw [if_pos (by omega), if_pos (by omega), show ((i : Int) + 1).toNat = i + 1 by omega, w64 (by omega) (by omega), show ((i + 1 : Nat) : Int) = (i : Int) + 1 by omega]
  constructor
  · intro g
    rw [if_pos (ht.mpr g)]
  · intro g
    rw [if_neg (fun q => g (ht.mp q))]

theorem spec_dead (s : ByteArray) (hs : s.size ≤ 1048576) : ∀ (d i k : Nat), i + d = 7 → (∃ j, j < i ∧ Bt s j < 128) → 14 * d + 60 ≤ k → spec_DecodeVarint.l0 k s ((i : Int) + 1) = some (0, 0) := by
  intro d
  induction d with
  | zero =>
    intro i k hi _ hk
    obtain ⟨k, rfl⟩ : ∃ q, k = q + 1 + 1 := ⟨k - 2, by omega⟩
    rw [spec_DecodeVarint.l0, if_neg (by omega), spec_DecodeVarint.j1, if_neg (by decide)]
  | succ d ih =>
    intro i k hi hd hk
    by_cases hlt : i < s.size
    · obtain ⟨k0, rfl⟩ : ∃ q, k = q + 1 + (i + 1) + 1 + 1 := ⟨k - (i + 4), by omega⟩
      obtain ⟨j, h1, h2⟩ := hd
      rw [(spec_step s i hlt (by omega) hs k0 (by omega)).2 (fun g => by
        have := G_high (Bt s) i 0 j g (by omega) (by omega)
        omega)]
      exact ih (i + 1) k0 (by omega) ⟨j, by omega, h2⟩ (by omega)
    · obtain ⟨k, rfl⟩ : ∃ q, k = q + 1 + 1 := ⟨k - 2, by omega⟩
      rw [spec_DecodeVarint.l0, if_pos (by omega), decide_eq_false (show ¬ ((i : Int) + 1 ≤ (s.size : Int)) by omega), spec_DecodeVarint.j1, if_neg (by decide)]

theorem or_step (s : ByteArray) {i : Nat} (hi7 : i ≤ 6) : bits .or .i64 (vl (Bt s) 0 i) (shl .i64 (Bt s i % 128) (7 * (i : Int))) = vl (Bt s) 0 (i + 1) := by
  have hb := Bt_range s i
  have v0 := vl_nonneg (Bt s) i 0
  have v1 := vl_lt (Bt s) i 0
  have w1 := vl_lt (Bt s) (i + 1) 0
  have hsn := vl_snoc (Bt s) i 0
  rw [Nat.zero_add] at hsn
  have ep : (128 : Int) ^ i = ((2 ^ (7 * i) : Nat) : Int) := by
    rw [Nat.pow_mul, Int.natCast_pow]
    rfl
  rw [ep] at hsn v1
  have v2 := pow_49 (show i + 1 ≤ 7 by omega)
  obtain ⟨a, ha⟩ := Int.eq_ofNat_of_zero_le v0
  obtain ⟨b, hb'⟩ := Int.eq_ofNat_of_zero_le (show 0 ≤ Bt s i % 128 by omega)
  have es : shl .i64 (Bt s i % 128) (7 * (i : Int)) = ((2 ^ (7 * i) * b : Nat) : Int) := by
    unfold shl
    rw [Nat.min_eq_left (by simp [IntKind.bits]; omega), show (7 * (i : Int)).toNat = 7 * i by omega, hb']
    have e : ((b : Int) * 2 ^ (7 * i)) = ((2 ^ (7 * i) * b : Nat) : Int) := by push_cast; rw [Int.mul_comm]
    rw [e]
    refine wrap_nat _ ?_
    have hb2 : b < 2 ^ 7 := by omega
    have hm : 2 ^ (7 * i) * b < 2 ^ (7 * i) * 2 ^ 7 := Nat.mul_lt_mul_of_pos_left hb2 (Nat.two_pow_pos _)
    rw [← Nat.pow_add] at hm
    exact Nat.lt_of_lt_of_le hm (Nat.pow_le_pow_right (by decide) (by omega))
  rw [es, ha, hsn, ha, hb']
  rw [ha] at v1
  have v1' : a < 2 ^ (7 * i) := by exact_mod_cast v1
  have hb2 : b < 2 ^ 7 := by omega
  have hm : 2 ^ (7 * i) * b < 2 ^ (7 * i) * 2 ^ 7 := Nat.mul_lt_mul_of_pos_left hb2 (Nat.two_pow_pos _)
  rw [← Nat.pow_add] at hm
  have hm2 : 2 ^ (7 * i) * b < 2 ^ 63 := Nat.lt_of_lt_of_le hm (Nat.pow_le_pow_right (by decide) (by omega))
  have ha2 : a < 2 ^ 63 := Nat.lt_of_lt_of_le v1' (Nat.pow_le_pow_right (by decide) (by omega))
  rw [or_nat _ _ ha2 hm2, Nat.or_comm, ← Nat.two_pow_add_eq_or_of_lt v1' b]
  push_cast
  rw [Int.mul_comm, Int.add_comm]

theorem both (s : ByteArray) (hs : s.size ≤ 1048576) : ∀ (d i k q : Nat), i + d = 7 → (∀ j, j < i → Bt s j ≥ 128) → 14 * d + 60 ≤ k → 2 * d + 4 ≤ q →
    ∃ r, spec_DecodeVarint.l0 k s ((i : Int) + 1) = some r ∧ impl_DecodeVarint.l0 q s (vl (Bt s) 0 i) (i : Int) = some r := by
  intro d
  induction d with
  | zero =>
    intro i k q hi _ hk hq
    obtain ⟨k, rfl⟩ : ∃ q, k = q + 1 + 1 := ⟨k - 2, by omega⟩
    obtain ⟨q, rfl⟩ : ∃ z, q = z + 1 + 1 := ⟨q - 2, by omega⟩
    rw [spec_DecodeVarint.l0, if_neg (by omega), spec_DecodeVarint.j1, if_neg (by decide)]
    simp only [impl_DecodeVarint.l0, impl_DecodeVarint.j1]
    rw [decide_eq_false (show ¬ ((i : Int) < 7) by omega)]
    simp
  | succ d ih =>
    intro i k q hi hh hk hq
    obtain ⟨q, rfl⟩ : ∃ z, q = z + 1 + 1 := ⟨q - 2, by omega⟩
    by_cases hlt : i < s.size
    · obtain ⟨k0, rfl⟩ : ∃ q, k = q + 1 + (i + 1) + 1 + 1 := ⟨k - (i + 4), by omega⟩
      have hb := Bt_range s i
      have hg := G_at (Bt s) (Bt_range s) i 0 (fun j _ h2 => hh j (by omega))
      rw [Nat.zero_add] at hg
      obtain ⟨st1, st2⟩ := spec_step s i hlt (by omega) hs k0 (by omega)
      have eb : bt s (i : Int) = Bt s i := rfl
      simp only [impl_DecodeVarint.l0, impl_DecodeVarint.j1]
      rw [if_pos (show (i : Int) < (s.size : Int) by omega), decide_eq_true (show (i : Int) < 7 by omega), if_pos rfl, if_pos (show 0 ≤ (i : Int) by omega), if_pos (show (i : Int) < (s.size : Int) by omega), eb, w64 (x := 7 * (i : Int)) (by omega) (by omega), if_pos (show 0 ≤ 7 * (i : Int) by omega), and127 hb.1 hb.2, w64 (x := Bt s i % 128) (by omega) (by omega), or_step s (by omega), w64 (x := (i : Int) + 1) (by omega) (by omega)]
      by_cases hc : Bt s i < 128
      · rw [if_pos hc]
        by_cases h0 : i = 0
        · subst h0
          rw [if_neg (by omega), st1 (hg.mpr ⟨hc, Or.inl rfl⟩)]
          exact ⟨_, rfl, rfl⟩
        · rw [if_pos (by omega)]
          by_cases hz : Bt s i = 0
          · rw [if_pos hz, st2 (fun g => by
              have := hg.mp g
              rcases this.2 with z | z
              · exact h0 z
              · exact z hz)]
            exact ⟨_, spec_dead s hs d (i + 1) k0 (by omega) ⟨i, by omega, by omega⟩ (by omega), rfl⟩
          · rw [if_neg hz, st1 (hg.mpr ⟨hc, Or.inr hz⟩)]
            exact ⟨_, rfl, rfl⟩
      · rw [if_neg hc, st2 (fun g => hc (hg.mp g).1)]
        obtain ⟨r, r1, r2⟩ := ih (i + 1) k0 q (by omega) (fun j hj => by
          by_cases e : j = i
          · subst e; omega
          · exact hh j (by omega)) (by omega) (by omega)
        exact ⟨r, r1, r2⟩
    · obtain ⟨k, rfl⟩ : ∃ q, k = q + 1 + 1 := ⟨k - 2, by omega⟩
      rw [spec_DecodeVarint.l0, if_pos (by omega), decide_eq_false (show ¬ ((i : Int) + 1 ≤ (s.size : Int)) by omega), spec_DecodeVarint.j1, if_neg (by decide)]
      simp only [impl_DecodeVarint.l0, impl_DecodeVarint.j1]
      rw [if_neg (show ¬ (i : Int) < (s.size : Int) by omega)]
      simp

theorem FnExactDecodeVarint : laws_FnExactDecodeVarint.Pure := by
  intro s _
  refine ⟨200, ?_⟩
  unfold laws_FnExactDecodeVarint.f
  by_cases hs : (s.size : Int) > 1048576
  · rw [if_pos hs]
  · rw [if_neg hs]
    obtain ⟨r, r1, r2⟩ := both s (by omega) 7 0 200 200 (by omega) (fun j hj => absurd hj (by omega)) (by omega) (by omega)
    have r1' : spec_DecodeVarint.f 200 s = some r := r1
    have r2' : impl_DecodeVarint.f 200 s = some r := r2
    rw [r1', r2']
    simp

end Go.Proofs.Ytoolcfepploeiaa.Pure
