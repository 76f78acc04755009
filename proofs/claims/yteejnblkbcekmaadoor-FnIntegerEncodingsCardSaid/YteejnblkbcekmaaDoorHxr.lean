/- Bytes in hexadecimal digits: what is encoded is decoded again. Conditions: the bounds that stand in each. -/
import Derived.Test.YteejnblkbcekmaaDoorFix
import Derived.Test.YteejnblkbcekmaaDoorPb4
import Derived.Test.YteejnblkbcekmaaDoorPb4
namespace Go.Proofs.YteejnblkbcekmaaDoor.Num
set_option linter.unusedVariables false
set_option linter.unusedSimpArgs false
open Go Go.RowKit Go.Proofs.YteejnblkbcekmaaDoor.P Go.Proofs.YteejnblkbcekmaaDoor.Bits Go.Proofs.YteejnblkbcekmaaDoorW.PrintWords Go.Proofs.YteejnblkbcekmaaDoorW.PrintLast Go.Proofs.YteejnblkbcekmaaDoorW.PrintMore

def hxD (d : Int) : Int := if d < 10 then 48 + d else 87 + d
theorem hx_digit {d : Int} (h0 : 0 ≤ d) (h1 : d < 16) : impl_hexDigit.f d = some (hxD d) := by
  have h : d = 0 ∨ d = 1 ∨ d = 2 ∨ d = 3 ∨ d = 4 ∨ d = 5 ∨ d = 6 ∨ d = 7 ∨ d = 8 ∨ d = 9 ∨ d = 10 ∨ d = 11 ∨ d = 12 ∨ d = 13 ∨ d = 14 ∨ d = 15 := by omega
  rcases h with rfl | rfl | rfl | rfl | rfl | rfl | rfl | rfl | rfl | rfl | rfl | rfl | rfl | rfl | rfl | rfl <;> decide +kernel
theorem hx_value {d : Int} (h0 : 0 ≤ d) (h1 : d < 16) (K : Nat) (hK : 1 ≤ K) : impl_hexValue.f K (hxD d) = some (d, true) := by
  obtain ⟨K, rfl⟩ : ∃ q, K = q + 1 := ⟨K - 1, by omega⟩
  have h : d = 0 ∨ d = 1 ∨ d = 2 ∨ d = 3 ∨ d = 4 ∨ d = 5 ∨ d = 6 ∨ d = 7 ∨ d = 8 ∨ d = 9 ∨ d = 10 ∨ d = 11 ∨ d = 12 ∨ d = 13 ∨ d = 14 ∨ d = 15 := by omega
  rcases h with rfl | rfl | rfl | rfl | rfl | rfl | rfl | rfl | rfl | rfl | rfl | rfl | rfl | rfl | rfl | rfl <;> rfl
theorem hx_range {d : Int} (h0 : 0 ≤ d) (h1 : d < 16) : 0 ≤ hxD d ∧ hxD d ≤ 255 := by
  unfold hxD
  split <;> omega

def hexTo (s : ByteArray) : Nat → List Int
  | 0 => []
  | i + 1 => hexTo s i ++ [hxD (bt s (i : Int) / 16), hxD (bt s (i : Int) % 16)]
theorem hexTo_len (s : ByteArray) : ∀ i, (hexTo s i).length = 2 * i
  | 0 => rfl
  | i + 1 => by
    show (hexTo s i ++ _).length = _
    rw [List.length_append, hexTo_len s i]
    simp only [List.length_cons, List.length_nil]
    omega
theorem hexTo_range (s : ByteArray) : ∀ i, ∀ x ∈ hexTo s i, 0 ≤ x ∧ x ≤ 255
  | 0, x, h => by simp [hexTo] at h
  | i + 1, x, h => by
    have hb := bt_range s (i : Int)
    rcases List.mem_append.1 h with q | q
    · exact hexTo_range s i x q
    · rcases List.mem_cons.1 q with q | q
      · rw [q]
        exact hx_range (by omega) (by omega)
      · rw [List.mem_singleton.1 q]
        exact hx_range (by omega) (by omega)
theorem hexTo_at (s : ByteArray) : ∀ n j, j < n → (hexTo s n).getD (2 * j) 0 = hxD (bt s (j : Int) / 16) ∧ (hexTo s n).getD (2 * j + 1) 0 = hxD (bt s (j : Int) % 16)
  | 0, j, h => absurd h (Nat.not_lt_zero _)
  | n + 1, j, h => by
    have hl := hexTo_len s n
    show (hexTo s n ++ _).getD _ 0 = _ ∧ (hexTo s n ++ _).getD _ 0 = _
    simp only [List.getD_eq_getElem?_getD]
    by_cases hj : j < n
    · have ih := hexTo_at s n j hj
      simp only [List.getD_eq_getElem?_getD] at ih
      rw [List.getElem?_append_left (by omega), List.getElem?_append_left (by omega)]
      exact ih
    · obtain rfl : j = n := by omega
      rw [List.getElem?_append_right (by omega), List.getElem?_append_right (by omega), hl, Nat.sub_self, show 2 * j + 1 - 2 * j = 1 by omega]
      exact ⟨rfl, rfl⟩
theorem enc_hex (s : ByteArray) (hs : s.size ≤ 1000) : ∀ (d i K : Nat), i + d = s.size → d < K → impl_EncodeHex.l0 K s (hexTo s i) (s.size : Int) (i : Int) = some (strOfNums (hexTo s s.size)) := by
  intro d
  induction d with
  | zero =>
    intro i K hi hK
    obtain ⟨K, rfl⟩ : ∃ q, K = q + 1 := ⟨K - 1, by omega⟩
    obtain rfl : i = s.size := by omega
    simp only [impl_EncodeHex.l0]
    rw [if_neg (by omega)]
  | succ d ih =>
    intro i K hi hK
    obtain ⟨K, rfl⟩ : ∃ q, K = q + 1 := ⟨K - 1, by omega⟩
    have hb := bt_range s (i : Int)
    have hl := hexTo_len s i
    have e := ih (i + 1) K (by omega) (by omega)
    have es : hexTo s (i + 1) = hexTo s i ++ [hxD (bt s (i : Int) / 16), hxD (bt s (i : Int) % 16)] := rfl
    rw [es] at e
    simp only [impl_EncodeHex.l0]
    rw [if_pos (by omega), if_pos (by omega), if_pos (by omega), Int.tdiv_eq_ediv_of_nonneg hb.1, Int.tmod_eq_emod_of_nonneg hb.1, show (bt s (i : Int) / 16) % 256 = bt s (i : Int) / 16 by omega, hx_digit (d := bt s (i : Int) / 16) (by omega) (by omega)]
    simp only [Option.bind_some]
    rw [hx_digit (d := bt s (i : Int) % 16) (by omega) (by omega)]
    simp only [Option.bind_some, List.length_cons, List.length_nil]
    rw [if_pos (by omega), w64 (x := (i : Int) + 1) (by omega) (by omega)]
    exact e
theorem bt_nums (xs : List Int) (hx : ∀ x ∈ xs, 0 ≤ x ∧ x ≤ 255) (j : Nat) (hj : j < xs.length) : bt (strOfNums xs) (j : Int) = xs.getD j 0 := by
  have := bt_app xs hx (⟨#[]⟩ : ByteArray) j hj
  rw [app_empty] at this
  exact this
def byteL (s : ByteArray) (i : Nat) : List Int := (List.range i).map fun (j : Nat) => bt s (j : Int)
theorem byteL_succ (s : ByteArray) (i : Nat) : byteL s (i + 1) = byteL s i ++ [bt s (i : Int)] := by
  unfold byteL
  rw [List.range_succ, List.map_append]
  rfl
theorem str_bytes (s : ByteArray) : strOfNums (byteL s s.size) = s := by
  apply ByteArray.ext
  apply Array.ext'
  rw [strOfNums_data]
  have hl : s.data.toList.length = s.size := by
    rw [Array.length_toList]
    rfl
  apply List.ext_getElem?
  intro j
  rw [List.getElem?_map]
  unfold byteL
  by_cases h : j < s.size
  · obtain ⟨b, h1, h2⟩ := bt_list s j h
    rw [List.getElem?_map, List.getElem?_range h, h1]
    simp only [Option.map_some, h2, Int.toNat_natCast, UInt8.ofNat_toNat]
  · rw [List.getElem?_eq_none (by rw [List.length_map, List.length_range]; omega), List.getElem?_eq_none (by omega)]
    rfl
theorem dec_hex_step (S : ByteArray) (xs : List Int) (p K : Nat) (a b : Int) (h1 : impl_hexValue.f K (bt S (p : Int)) = some (a, true)) (h2 : impl_hexValue.f K (bt S ((p + 1 : Nat) : Int)) = some (b, true)) (hp : p + 1 < S.size) (hS : S.size ≤ 3000) (hx : xs.length ≤ 3000) :
    impl_DecodeHex.l0 (K + 1) S xs (p : Int) = impl_DecodeHex.l0 K S (xs ++ [((16 * a) + b) % 256]) ((p + 2 : Nat) : Int) := by
  rw [show ((p + 1 : Nat) : Int) = (p : Int) + 1 by omega] at h2
  have hl : xs.length < 140737488355328 := by omega
  simp only [impl_DecodeHex.l0]
  rw [if_pos (by omega), if_pos (by omega), w64 (x := (p : Int) + 1) (by omega) (by omega), h1]
  simp only [Option.bind_some]
  rw [if_pos (by omega), if_pos (by omega), h2]
  simp only [Option.bind_some]
  simp only [if_true]
  rw [if_pos hl, w64 (x := (p : Int) + 2) (by omega) (by omega)]
  rfl
theorem dec_hex_end (S : ByteArray) (xs : List Int) (p K : Nat) (hp : S.size ≤ p) : impl_DecodeHex.l0 (K + 1) S xs (p : Int) = some (strOfNums xs, true) := by
  simp only [impl_DecodeHex.l0]
  rw [if_neg (show ¬ (p : Int) < (S.size : Int) by omega)]
theorem byteL_len (s : ByteArray) (i : Nat) : (byteL s i).length = i := by
  unfold byteL
  rw [List.length_map, List.length_range]
theorem dec_hex (s S : ByteArray) (hs : s.size ≤ 1000) (hsz : S.size = 2 * s.size) (hS : ∀ j, j < s.size → bt S ((2 * j : Nat) : Int) = hxD (bt s (j : Int) / 16) ∧ bt S ((2 * j + 1 : Nat) : Int) = hxD (bt s (j : Int) % 16)) : ∀ (d i K : Nat), i + d = s.size → d + 2 ≤ K → impl_DecodeHex.l0 K S (byteL s i) ((2 * i : Nat) : Int) = some (s, true) := by
  intro d
  induction d with
  | zero =>
    intro i K hi hK
    obtain ⟨K, rfl⟩ : ∃ q, K = q + 1 := ⟨K - 1, by omega⟩
    obtain rfl : i = s.size := by omega
    rw [dec_hex_end S _ _ K (by omega), str_bytes]
  | succ d ih =>
    intro i K hi hK
    obtain ⟨K, rfl⟩ : ∃ q, K = q + 1 := ⟨K - 1, by omega⟩
    have hb := bt_range s (i : Int)
    obtain ⟨b1, b2⟩ := hS i (by omega)
    have v1 := hx_value (d := bt s (i : Int) / 16) (by omega) (by omega) K (by omega)
    have v2 := hx_value (d := bt s (i : Int) % 16) (by omega) (by omega) K (by omega)
    rw [← b1] at v1
    rw [← b2] at v2
    have hlb := byteL_len s i
    have e := dec_hex_step S (byteL s i) (2 * i) K _ _ v1 v2 (by omega) (by omega) (by omega)
    have e2 := ih (i + 1) K (by omega) (by omega)
    rw [byteL_succ] at e2
    rw [e, show ((16 * (bt s (i : Int) / 16)) + bt s (i : Int) % 16) % 256 = bt s (i : Int) by omega, show 2 * i + 2 = 2 * (i + 1) by omega]
    exact e2
theorem hex_round (s : ByteArray) (hs : s.size ≤ 40) (K : Nat) (hK : 60 ≤ K) : ∃ h, impl_EncodeHex.f K s = some h ∧ impl_DecodeHex.f K h = some (s, true) ∧ (h.size : Int) = 2 * (s.size : Int) := by
  have hsz : (strOfNums (hexTo s s.size)).size = 2 * s.size := by rw [strOfNums_size, hexTo_len]
  refine ⟨strOfNums (hexTo s s.size), ?_, ?_, by omega⟩
  · unfold impl_EncodeHex.f
    rw [w64 (x := 2 * (s.size : Int)) (by omega) (by omega), if_pos (by omega), if_pos (by omega)]
    exact enc_hex s (by omega) s.size 0 K (by omega) (by omega)
  · unfold impl_DecodeHex.f
    rw [if_pos (by omega), w64 (by omega) (by omega), if_pos (by omega), if_pos (by omega)]
    have hl := hexTo_len s s.size
    have hr := hexTo_range s s.size
    refine dec_hex s _ (by omega) hsz (fun j hj => ?_) s.size 0 K (by omega) (by omega)
    obtain ⟨h1, h2⟩ := hexTo_at s s.size j hj
    rw [bt_nums _ hr (2 * j) (by omega), bt_nums _ hr (2 * j + 1) (by omega)]
    exact ⟨h1, h2⟩
end Go.Proofs.YteejnblkbcekmaaDoor.Num
