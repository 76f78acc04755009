/- What the rows of terms of one table are: prime terms, those that hold alone, and a least sum, told as places in the list of all. Conditions: the bounds that stand in each. -/
import Derived.Test.YtfiejicdlaknnaaK6
import Derived.Test.YtfiejicdlaknnaaK5
import Derived.Test.YtfiejicdlaknnaaK4
import Derived.Test.YtfiejicdlaknnaaPb2
import Derived.Test.YtfiejicdlaknnaaPb3
import Derived.Test.YtfiejicdlaknnaaPb4
import Derived.Test.YtfiejicdlaknnaaPv5

namespace Go.Proofs.Ytfiejicdlaknnaa.Pms
set_option linter.unusedVariables false
set_option linter.unusedSimpArgs false
open Go Go.RowKit Go.Proofs.Ytfiejicdlaknnaa.P Go.Proofs.Ytfiejicdlaknnaa.Bits Go.Proofs.Ytfiejicdlaknnaa.Tab Go.Proofs.Ytfiejicdlaknnaa.Shl Go.Proofs.Ytfiejicdlaknnaa.Imp Go.Proofs.Ytfiejicdlaknnaa.Pri Go.Proofs.Ytfiejicdlaknnaa.Prm Go.Proofs.Ytfiejicdlaknnaa.Ess Go.Proofs.Ytfiejicdlaknnaa.Tot Go.Proofs.Ytfiejicdlaknnaa.Min Go.Proofs.Ytfiejicdlaknnaa.Msm Go.Proofs.YtfiejicdlaknnaaW.PrintWords Go.Proofs.YtfiejicdlaknnaaW.PrintLast Go.Proofs.YtfiejicdlaknnaaW.PrintMore
def pick (l : List S33) (x : List Nat) : List S33 := x.map fun (j : Nat) => rd_T33 l (j : Int)
theorem sum_one {n W : Nat} (hn : n ≤ 5) {l : List S33} (hl : l = primesL n W) {i : Nat} (hi : i < l.length) : impl_sumOf.f (n : Int) [(⟨(rd_T33 l (i : Int)).f0, (rd_T33 l (i : Int)).f1⟩ : S33)] = some ((n : Int), ((wAt (wsOf n l) i : Nat) : Int)) := by
 unfold impl_sumOf.f
 rw [if_pos ⟨by omega, by omega, by simp⟩, ws_at hi, Int.toNat_natCast]
 congr 3
 have h32 := pow_le_32 hn
 apply wordOf_congr
 intro x hx
 simp only [List.any_cons, List.any_nil, Bool.or_false]
 exact holdsB_is hn (by rw [← hl]; exact rd_mem hi) (by omega)
theorem words_loop {n W : Nat} (hn : n ≤ 5) {l : List S33} (hl : l = primesL n W) (w : Int) : ∀ (d i K : Nat), i + d = l.length → d < K →
  impl_Table_minimal.l0 K l ((wsI n l).take i ++ List.replicate d 0) l (l.length : Int) (i : Int) (n : Int) w = impl_Table_minimal.l1 (K - d - 1) l (wsI n l) ((l.length : Int) + 1) 0 (n : Int) w := by
 have hlen : l.length ≤ 1056 := by rw [hl]; exact primesL_len W hn
 have hwl := wsI_len n l
 intro d
 induction d with
 | zero =>
  intro i K hi hK
  obtain ⟨K, rfl⟩ : ∃ q, K = q + 1 := ⟨K - 1, by omega⟩
  simp only [impl_Table_minimal.l0]
  rw [if_neg (by omega), w64 (by omega) (by omega), List.take_of_length_le (by omega)]
  simp
 | succ d ih =>
  intro i K hi hK
  obtain ⟨K, rfl⟩ : ∃ q, K = q + 1 := ⟨K - 1, by omega⟩
  have hil : i < l.length := by omega
  simp only [impl_Table_minimal.l0]
  rw [if_pos (show (i : Int) < (l.length : Int) by omega), if_pos (show 0 ≤ (i : Int) by omega), if_pos (show (i : Int) < (l.length : Int) by omega), sum_one hn hl hil]
  simp only [Option.bind_some]
  have hll : ((wsI n l).take i ++ List.replicate (d + 1) (0 : Int)).length = l.length := by simp [hwl]; omega
  rw [if_pos (by rw [hll]; omega), w64 (by omega) (by omega), Int.toNat_natCast]
  have hti : ((wsI n l).take i).length = i := by rw [List.length_take]; omega
  have e : ((wsI n l).take i ++ List.replicate (d + 1) (0 : Int)).set i ((wAt (wsOf n l) i : Nat) : Int) = (wsI n l).take (i + 1) ++ List.replicate d 0 := by
   rw [List.set_append_right _ _ (by omega), hti, Nat.sub_self, List.replicate_succ, List.set_cons_zero, List.take_succ_eq_append_getElem (by omega), List.append_assoc]
   congr 1
   have := wsI_at n l i
   unfold rd at this
   rw [Int.toNat_natCast, List.getD_eq_getElem?_getD, List.getElem?_eq_getElem (by omega)] at this
   simp only [Option.getD_some] at this
   rw [← this]
   rfl
  rw [e, show (i : Int) + 1 = ((i + 1 : Nat) : Int) from by omega, ih (i + 1) K (by omega) (by omega)]
  congr 1
  omega
theorem out_loop (l : List S33) (x : List Nat) (hx : ∀ a ∈ x, a < l.length) (hl : l.length ≤ 1056) (hxl : x.length ≤ 1056) : ∀ (d i K : Nat), i + d = x.length → d < K →
  impl_Table_minimal.l2 K l ((x.take i).map fun (j : Nat) => rd_T33 l (j : Int)) (x.map fun (j : Nat) => (j : Int)) (x.length : Int) (i : Int) = some (x.map fun (j : Nat) => rd_T33 l (j : Int)) := by
 intro d
 induction d with
 | zero =>
  intro i K hi hK
  obtain ⟨K, rfl⟩ : ∃ q, K = q + 1 := ⟨K - 1, by omega⟩
  simp only [impl_Table_minimal.l2]
  rw [if_neg (by omega), List.take_of_length_le (by omega)]
 | succ d ih =>
  intro i K hi hK
  obtain ⟨K, rfl⟩ : ∃ q, K = q + 1 := ⟨K - 1, by omega⟩
  have hil : i < x.length := by omega
  have ea : rd (x.map fun (j : Nat) => (j : Int)) (i : Int) = ((x[i] : Nat) : Int) := by
   unfold rd
   rw [Int.toNat_natCast, List.getD_eq_getElem?_getD, List.getElem?_map, List.getElem?_eq_getElem hil]
   rfl
  have hlt := hx x[i] (List.getElem_mem hil)
  simp only [impl_Table_minimal.l2, List.length_map, ea]
  rw [if_pos (show (i : Int) < (x.length : Int) by omega), if_pos (show 0 ≤ (i : Int) by omega), if_pos (show (i : Int) < (x.length : Int) by omega), if_pos (by omega), if_pos (by omega), if_pos (by rw [List.length_take]; omega), w64 (by omega) (by omega)]
  have ih' := ih (i + 1) K (by omega) (by omega)
  rw [List.take_succ_eq_append_getElem hil, List.map_append, show ((i + 1 : Nat) : Int) = (i : Int) + 1 from by omega] at ih'
  exact ih'
theorem inc_mem {L : Nat} : ∀ {x : List Nat} {i : Nat}, Inc L i x → ∀ a ∈ x, a < L
 | [], _, _, a, ha => by simp at ha
 | b :: x, i, h, a, ha => by
  rcases List.mem_cons.1 ha with rfl | ha
  ·exact h.2.1
  ·exact inc_mem h.2.2 a ha
theorem spec_many {n W : Nat} (hn : n ≤ 5) (hW : W < 2 ^ 32) {l : List S33} (hl : l = primesL n W) (K0 : Nat) (hK0 : K0 ≤ 8) (x : List Nat) (hx : F (wsOf n l) l.length K0 W 0 = some x) (hno : ∀ k, k < K0 → F (wsOf n l) l.length k W 0 = none) :
  ∀ (d k K : Nat), k + d = K0 → d + 2 * l.length + 60 ≤ K → spec_MinimalSum.l0 K l (k : Int) (n : Int) (W : Int) = some (x.map fun (j : Nat) => rd_T33 l (j : Int), true) := by
 intro d
 induction d with
 | zero =>
  intro k K hk hK
  obtain ⟨K, rfl⟩ : ∃ q, K = q + 1 := ⟨K - 1, by omega⟩
  obtain rfl : k = K0 := by omega
  simp only [spec_MinimalSum.l0]
  rw [if_pos (by omega), cover_f hn hl (W : Int) K k W hW (by omega) (by omega), hx]
  simp [ansS]
 | succ d ih =>
  intro k K hk hK
  obtain ⟨K, rfl⟩ : ∃ q, K = q + 1 := ⟨K - 1, by omega⟩
  simp only [spec_MinimalSum.l0]
  rw [if_pos (by omega), cover_f hn hl (W : Int) K k W hW (by omega) (by omega), hno k (by omega)]
  simp only [ansS, Option.bind_some]
  rw [if_neg (by decide), w64 (by omega) (by omega)]
  exact ih (k + 1) K (by omega) (by omega)
theorem impl_many {n W : Nat} (hn : n ≤ 5) {l : List S33} (hl : l = primesL n W) (K0 : Nat) (hK0 : K0 ≤ l.length) (x : List Nat) (hx : C (wsOf n l) W l.length K0 0 0 = some x) (hinc : Inc l.length 0 x) (hno : ∀ k, k < K0 → C (wsOf n l) W l.length k 0 0 = none) :
  ∀ (d k K : Nat), k + d = K0 → d + 2 * l.length + 60 ≤ K → impl_Table_minimal.l1 K l (wsI n l) ((l.length : Int) + 1) (k : Int) (n : Int) (W : Int) = some (x.map fun (j : Nat) => rd_T33 l (j : Int)) := by
 have hlen : l.length ≤ 1056 := by rw [hl]; exact primesL_len W hn
 have hxl := hinc.length
 intro d
 induction d with
 | zero =>
  intro k K hk hK
  obtain ⟨K, rfl⟩ : ∃ q, K = q + 1 := ⟨K - 1, by omega⟩
  obtain rfl : k = K0 := by omega
  simp only [impl_Table_minimal.l1]
  rw [if_pos (by omega), choose_f hn hl K k hK0 (by omega), hx]
  simp only [ansI, Option.bind_some, if_true, List.length_map]
  exact out_loop l x (inc_mem hinc) hlen (by omega) x.length 0 K (by omega) (by omega)
 | succ d ih =>
  intro k K hk hK
  obtain ⟨K, rfl⟩ : ∃ q, K = q + 1 := ⟨K - 1, by omega⟩
  simp only [impl_Table_minimal.l1]
  rw [if_pos (by omega), choose_f hn hl K k (by omega) (by omega), hno k (by omega)]
  simp only [ansI, Option.bind_some]
  rw [if_neg (by decide), w64 (by omega) (by omega)]
  exact ih (k + 1) K (by omega) (by omega)
theorem least_of (p : Nat → Prop) (m : Nat) (h : p m) : ∃ k, k ≤ m ∧ p k ∧ ∀ j, j < k → ¬ p j := by
 induction m using Nat.strongRecOn with
 | ind m ih =>
  by_cases hh : ∃ j, j < m ∧ p j
  ·obtain ⟨j, h1, h2⟩ := hh
   obtain ⟨k, g1, g2, g3⟩ := ih j h1 h2
   exact ⟨k, by omega, g2, g3⟩
  ·exact ⟨m, Nat.le_refl _, h, fun j hj q => hh ⟨j, hj, q⟩⟩
theorem minimal_core2 {n W : Nat} (hn : n ≤ 4) (hW : W < 2 ^ 2 ^ n) (hT : isT (n : Int) (W : Int) = true) : ∃ (r : List S33) (x : List Nat), r.length ≤ 1100 ∧ Inc (primesL n W).length 0 x ∧ Min.Cov (wsOf n (primesL n W)) W x ∧ r = pick (primesL n W) x ∧ ∀ K, 9999 ≤ K → spec_MinimalSum.f (K + 1) (n : Int) (W : Int) = some (r, true) ∧ impl_MinimalSum.f (K + 1) (n : Int) (W : Int) = some (r, true) := by
 obtain ⟨l, hl⟩ : ∃ l, l = primesL n W := ⟨_, rfl⟩
 have hlen : l.length ≤ 1056 := by rw [hl]; exact primesL_len W (by omega)
 have hW32 : W < 2 ^ 32 := Nat.lt_of_lt_of_le hW (Nat.pow_le_pow_right (by decide) (pow_le_32 (show n ≤ 5 by omega)))
 obtain ⟨x8, e1, e2, e3⟩ := eight hn hW hl
 obtain ⟨y8, hy8⟩ := F_complete (wsOf n l) l.length 8 W 0 x8 (by rw [Nat.zero_add]; exact e1) e2 e3
 obtain ⟨K0, hK0, ⟨x, hx⟩, hno⟩ := least_of (fun k => ∃ y, F (wsOf n l) l.length k W 0 = some y) 8 ⟨y8, hy8⟩
 have hno' : ∀ k, k < K0 → F (wsOf n l) l.length k W 0 = none := by
  intro k hk
  cases hf : F (wsOf n l) l.length k W 0 with
  | none => rfl
  | some y => exact absurd ⟨y, hf⟩ (hno k hk)
 obtain ⟨f1, f2, f3⟩ := F_sound _ hx
 rw [Nat.zero_add] at f1
 have hmin : ∀ y, Inc (0 + l.length) 0 y → y.length < K0 → ¬ Cov (wsOf n l) W y := by
  intro y h1 h2 h3
  obtain ⟨z, hz⟩ := F_complete (wsOf n l) l.length y.length W 0 y h1 (Nat.le_refl _) h3
  rw [hno' _ h2] at hz
  cases hz
 have hxl := f1.length
 have hKl : K0 ≤ l.length := by
  rcases Nat.lt_or_ge x.length K0 with h | h
  ·exact absurd f3 (hmin x (by rw [Nat.zero_add]; exact f1) h)
  ·omega
 have c0 : cut W 0 = W := by
  apply Nat.eq_of_testBit_eq
  intro i
  rw [bit_cut, Nat.zero_testBit]
  simp
 have hsame := same (wsOf n l) W (ws_sub hl) l.length K0 0 0 (by simp) (by rw [c0]; exact hmin)
 rw [c0, hx] at hsame
 have hnoC : ∀ k, k < K0 → C (wsOf n l) W l.length k 0 0 = none := by
  intro k hk
  cases hf : C (wsOf n l) W l.length k 0 0 with
  | none => rfl
  | some y =>
   obtain ⟨g1, g2, g3⟩ := C_sound (wsOf n l) W (ws_sub hl) l.length k 0 0 y (by simp) hf
   rw [c0] at g3
   exact absurd g3 (hmin y g1 (by omega))
 refine ⟨x.map fun (j : Nat) => rd_T33 l (j : Int), x, by simp; omega, by rw [← hl]; exact f1, by rw [← hl]; exact f3, by rw [← hl]; rfl, fun K hK => ⟨?_, ?_⟩⟩
 ·have hp := (primes_are hT (k := K) (by omega)).1
  rw [Int.toNat_natCast, ← hl] at hp
  unfold spec_MinimalSum.f
  rw [spec_IsTable_is, hT]
  simp only [Option.bind_some, if_true]
  rw [decide_eq_false (by omega)]
  simp only [spec_MinimalSum.j0, Bool.false_eq_true, if_false]
  rw [hp]
  exact spec_many (by omega) hW32 hl K0 hK0 x hx hno' K0 0 K (by omega) (by omega)
 ·have hp := (primes_are hT (k := K + 1) (by omega)).2
  rw [Int.toNat_natCast, ← hl] at hp
  unfold impl_MinimalSum.f impl_isSmall.f
  rw [impl_IsTable_is, hT]
  simp only [Option.bind_some, if_true]
  rw [decide_eq_true (show (n : Int) ≤ 4 by omega)]
  simp only [if_true]
  unfold impl_Table_minimal.f
  rw [hp]
  simp only [Option.bind_some, Int.toNat_natCast]
  rw [if_pos (by omega), if_pos (by omega)]
  have w1 := words_loop (show n ≤ 5 by omega) hl (W : Int) l.length 0 (K + 1) (by omega) (by omega)
  rw [List.take_zero, List.nil_append, Int.natCast_zero] at w1
  have w2 := impl_many (show n ≤ 5 by omega) hl K0 hKl x hsame.symm f1 hnoC K0 0 (K + 1 - l.length - 1) (by omega) (by omega)
  rw [Int.natCast_zero] at w2
  rw [w1, w2]
  rfl
theorem minimal_law (n w : Int) : ∃ (r : List S33) (is : Bool), r.length ≤ 1100 ∧ (∀ k, 10000 ≤ k → spec_MinimalSum.f k n w = some (r, is) ∧ impl_MinimalSum.f k n w = some (r, is)) ∧ (is = true → ∃ (N W : Nat) (x : List Nat), n = (N : Int) ∧ w = (W : Int) ∧ N ≤ 4 ∧ W < 2 ^ 2 ^ N ∧ isT n w = true ∧ Inc (primesL N W).length 0 x ∧ Min.Cov (wsOf N (primesL N W)) W x ∧ r = pick (primesL N W) x) := by
 have nos : ∀ (b : Bool) (K : Nat), isT n w = b → (b = false ∨ ¬ n ≤ 4) → spec_MinimalSum.f (K + 1) n w = some ([], false) ∧ impl_MinimalSum.f (K + 1) n w = some ([], false) := by
  intro b K hb hh
  have ej : spec_MinimalSum.j0 (K + 1) true n w = some ([], false) := by
   simp only [spec_MinimalSum.j0, if_true]
  unfold spec_MinimalSum.f impl_MinimalSum.f impl_isSmall.f
  rw [spec_IsTable_is, impl_IsTable_is, hb]
  simp only [Option.bind_some]
  cases b
  ·simp [ej]
  ·rcases hh with hh | hh
   ·cases hh
   ·rw [decide_eq_true (show n > 4 by omega), decide_eq_false hh]
    simp [ej]
 cases h : isT n w
 ·refine ⟨[], false, by simp, fun k hk => ?_, fun q => by cases q⟩
  obtain ⟨K, rfl⟩ : ∃ K, k = K + 1 := ⟨k - 1, by omega⟩
  exact nos false K h (Or.inl rfl)
 ·by_cases h4 : n ≤ 4
  ·obtain ⟨h0, h5, hw, hl⟩ := isT_yes h
   obtain ⟨N, rfl⟩ := Int.eq_ofNat_of_zero_le h0
   obtain ⟨W, rfl⟩ := Int.eq_ofNat_of_zero_le hw
   have hW : W < 2 ^ 2 ^ N := by
    rw [lim_two h0 h5, two_nat (by omega), Int.toNat_natCast] at hl
    have e : ((2 : Int) ^ (2 ^ N)) = ((2 ^ 2 ^ N : Nat) : Int) := by push_cast; rfl
    rw [e] at hl
    omega
   obtain ⟨r, x, r0, x1, x2, x3, r1⟩ := minimal_core2 (show N ≤ 4 by omega) hW h
   refine ⟨r, true, r0, fun k hk => ?_, fun _ => ⟨N, W, x, rfl, rfl, by omega, hW, rfl, x1, x2, x3⟩⟩
   obtain ⟨K, rfl⟩ : ∃ K, k = K + 1 := ⟨k - 1, by omega⟩
   exact r1 K (by omega)
  ·refine ⟨[], false, by simp, fun k hk => ?_, fun q => by cases q⟩
   obtain ⟨K, rfl⟩ : ∃ K, k = K + 1 := ⟨k - 1, by omega⟩
   exact nos true K h (Or.inr h4)
theorem ess_loop2 {n W : Nat} (hn : n ≤ 5) (hW : W < 2 ^ 2 ^ n) {l : List S33} (hl : l = primesL n W) : ∀ (d i k q : Nat) (xs : List S33), i + d = l.length → xs.length ≤ i → 1200 * d + 1 ≤ k → d < q →
  ∃ ys : List Nat, Inc l.length i ys ∧ (∀ a ∈ ys, E n l a) ∧ spec_EssentialPrimes.l0 k xs l (i : Int) (n : Int) (W : Int) = some (xs ++ pick l ys, true) ∧ impl_EssentialPrimes.l0 q l xs l (l.length : Int) (i : Int) (n : Int) (W : Int) = some (xs ++ pick l ys, true) := by
 have h32 := pow_le_32 hn
 have hlen : l.length ≤ 1056 := by rw [hl]; exact primesL_len W hn
 have hW2 : W < 2 ^ 32 := Nat.lt_of_lt_of_le hW (Nat.pow_le_pow_right (by decide) h32)
 intro d
 induction d with
 | zero =>
  intro i k q xs hi hx hk hq
  obtain ⟨k, rfl⟩ : ∃ z, k = z + 1 := ⟨k - 1, by omega⟩
  obtain ⟨q, rfl⟩ : ∃ z, q = z + 1 := ⟨q - 1, by omega⟩
  simp only [spec_EssentialPrimes.l0, impl_EssentialPrimes.l0]
  rw [if_neg (by omega), if_neg (by omega)]
  exact ⟨[], trivial, by simp, by simp [pick], by simp [pick]⟩
 | succ d ih =>
  intro i k q xs hi hx hk hq
  obtain ⟨k, rfl⟩ : ∃ z, k = z + 1 := ⟨k - 1, by omega⟩
  obtain ⟨q, rfl⟩ : ∃ z, q = z + 1 := ⟨q - 1, by omega⟩
  have hil : i < l.length := by omega
  have hm : rd_T33 l (i : Int) ∈ primesL n W := by rw [← hl]; exact rd_mem hil
  have es : spec_EssentialPrimes.l0 (k + 1) xs l (i : Int) (n : Int) (W : Int) = spec_EssentialPrimes.l1 k xs l (i : Int) ((wordOf (fun x => hold (rd_T33 l (i : Int)) x && rest l i x 0) (2 ^ n) : Nat) : Int) ((0 : Nat) : Int) (n : Int) (W : Int) := by
   simp only [spec_EssentialPrimes.l0]
   rw [if_pos (by omega), if_pos (by omega), word_is hn hm (by omega)]
   have : (fun x => hold (rd_T33 l (i : Int)) x && rest l i x 0) = hold (rd_T33 l (i : Int)) := by
    funext x
    simp [rest]
   rw [this]
   rfl
  obtain ⟨k', hk', e1⟩ := spec_inner n W hn l hl (W : Int) i hil xs l.length 0 k (by omega) (by omega)
  have hw1 : Aside0 (wrap64 ((i : Int) + 1) = ((i + 1 : Nat) : Int)) := ⟨by rw [w64 (by omega) (by omega)]; omega⟩
  rw [hw1.out] at e1
  have ei : impl_EssentialPrimes.l0 (q + 1) l xs l (l.length : Int) (i : Int) (n : Int) (W : Int) = (if (!(((wordOf (fun x => (l.take i ++ l.drop (i + 1)).any (holdsB (x : Int))) (2 ^ n) : Nat) : Int) == (W : Int))) = true then impl_EssentialPrimes.l0 q l (xs ++ [(⟨(rd_T33 l (i : Int)).f0, (rd_T33 l (i : Int)).f1⟩ : S33)]) l (l.length : Int) ((i + 1 : Nat) : Int) (n : Int) (W : Int) else impl_EssentialPrimes.l0 q l xs l (l.length : Int) ((i + 1 : Nat) : Int) (n : Int) (W : Int)) := by
   have ec : impl_Term_41.f (l.take i) = some (l.take i) := by
    unfold impl_Term_41.f
    rw [if_pos (by rw [List.length_take]; omega)]
   have esum : impl_sumOf.f (n : Int) (l.take i ++ l.drop (i + 1)) = some ((n : Int), ((wordOf (fun x => (l.take i ++ l.drop (i + 1)).any (holdsB (x : Int))) (2 ^ n) : Nat) : Int)) := by
    unfold impl_sumOf.f
    rw [if_pos ⟨by omega, by omega, by rw [List.length_append, List.length_take, List.length_drop]; omega⟩, Int.toNat_natCast]
   generalize ((wordOf (fun x => (l.take i ++ l.drop (i + 1)).any (holdsB (x : Int))) (2 ^ n) : Nat) : Int) = wd at esum ⊢
   simp only [impl_EssentialPrimes.l0]
   rw [if_pos (show (i : Int) < (l.length : Int) by omega), if_pos (show 0 ≤ (i : Int) by omega), if_pos (show (i : Int) < (l.length : Int) by omega), if_pos (show (i : Int) ≤ (l.length : Int) by omega), hw1.out]
   simp only [Int.toNat_natCast]
   rw [ec]
   simp only [Option.bind_some]
   rw [if_pos (show 0 ≤ ((i + 1 : Nat) : Int) by omega), if_pos (show ((i + 1 : Nat) : Int) ≤ (l.length : Int) by omega), if_pos (show (l.take i).length + (l.drop (i + 1)).length < 8796093022208 by rw [List.length_take, List.length_drop]; omega)]
   rw [esum]
   simp only [Option.bind_some, beq_self_eq_true, Bool.not_true, Bool.false_or]
   rw [if_pos (show xs.length < 8796093022208 by omega)]
  have hd := differs_iff hn hW hl i hil
  have hp := wordOf_pos (fun x => hold (rd_T33 l (i : Int)) x && rest l i x l.length) (2 ^ n)
  rw [es, e1, ei]
  clear es e1 ei
  generalize hA : wordOf (fun x => hold (rd_T33 l (i : Int)) x && rest l i x l.length) (2 ^ n) = wa at hp ⊢
  generalize hB : wordOf (fun x => (l.take i ++ l.drop (i + 1)).any (holdsB (x : Int))) (2 ^ n) = wb at hd ⊢
  clear hA hB
  by_cases hE : E n l i
  ·have h1 := hd.mpr hE
   have h2 : 0 < wa := hp.mpr hE
   have hne : (!((wb : Int) == (W : Int))) = true := by
    rw [Bool.not_eq_true', beq_eq_false_iff_ne]
    omega
   rw [if_pos (show (wa : Int) > 0 by omega), if_pos (show 0 ≤ (i : Int) by omega), if_pos (show (i : Int) < (l.length : Int) by omega), if_pos (show xs.length < 8796093022208 by omega), if_pos hne]
   obtain ⟨ys, y1, y2, y3, y4⟩ := ih (i + 1) k' q (xs ++ [(⟨(rd_T33 l (i : Int)).f0, (rd_T33 l (i : Int)).f1⟩ : S33)]) (by omega) (by simp; omega) (by omega) (by omega)
   have ea : xs ++ [(⟨(rd_T33 l (i : Int)).f0, (rd_T33 l (i : Int)).f1⟩ : S33)] ++ pick l ys = xs ++ pick l (i :: ys) := by
    rw [List.append_assoc]
    rfl
   rw [ea] at y3 y4
   refine ⟨i :: ys, ⟨Nat.le_refl _, hil, y1⟩, ?_, y3, y4⟩
   intro a ha
   rcases List.mem_cons.1 ha with rfl | ha
   ·exact hE
   ·exact y2 a ha
  ·have h1 : wb = W := Classical.byContradiction fun q => hE (hd.mp q)
   have h2 : ¬ 0 < wa := fun q => hE (hp.mp q)
   have hne : ¬ (!((wb : Int) == (W : Int))) = true := by
    rw [h1, beq_self_eq_true]
    decide
   rw [if_neg (show ¬ (wa : Int) > 0 by omega), if_neg hne]
   obtain ⟨ys, y1, y2, y3, y4⟩ := ih (i + 1) k' q xs (by omega) (by omega) (by omega) (by omega)
   exact ⟨ys, y1.weaken (by omega), y2, y3, y4⟩
theorem essential_law (n w : Int) : ∃ (r : List S33) (is : Bool), r.length ≤ 1100 ∧ (∀ k, 1400000 ≤ k → spec_EssentialPrimes.f k n w = some (r, is) ∧ impl_EssentialPrimes.f k n w = some (r, is)) ∧ ∀ N W : Nat, n = (N : Int) → w = (W : Int) → isT n w = true → ∃ ys, Inc (primesL N W).length 0 ys ∧ (∀ a ∈ ys, E N (primesL N W) a) ∧ r = pick (primesL N W) ys := by
 cases h : isT n w
 ·refine ⟨[], false, by simp, ?_, fun N W _ _ q => by cases q⟩
  intro k _
  unfold spec_EssentialPrimes.f impl_EssentialPrimes.f
  simp [spec_IsTable_is, impl_IsTable_is, h]
 ·obtain ⟨h0, h5, hw, hl⟩ := isT_yes h
  obtain ⟨N, rfl⟩ := Int.eq_ofNat_of_zero_le h0
  obtain ⟨W, rfl⟩ := Int.eq_ofNat_of_zero_le hw
  have hW : W < 2 ^ 2 ^ N := by
   rw [lim_two h0 h5, two_nat (by omega), Int.toNat_natCast] at hl
   have e : ((2 : Int) ^ (2 ^ N)) = ((2 ^ 2 ^ N : Nat) : Int) := by push_cast; rfl
   rw [e] at hl
   omega
  have hlen : (primesL N W).length ≤ 1056 := primesL_len W (by omega)
  obtain ⟨ys, y1, y2, r1, r2⟩ := ess_loop2 (n := N) (by omega) hW rfl (primesL N W).length 0 1400000 1400000 [] (by omega) (by simp) (by omega) (by omega)
  have yl := y1.length
  rw [List.nil_append] at r1 r2
  refine ⟨pick (primesL N W) ys, true, by unfold pick; rw [List.length_map]; omega, ?_, ?_⟩
  rotate_left
  ·intro N' W' e1 e2 _
   obtain rfl : N = N' := by omega
   obtain rfl : W = W' := by omega
   exact ⟨ys, y1, y2, rfl⟩
  intro k hk
  obtain ⟨d, rfl⟩ : ∃ d, k = 1400000 + d := ⟨k - 1400000, by omega⟩
  have hh : spec_EssentialPrimes.l0 (1400000 + d) [] (primesL N W) ((0 : Nat) : Int) (N : Int) (W : Int) = some (pick (primesL N W) ys, true) ∧ impl_EssentialPrimes.l0 (1400000 + d) (primesL N W) [] (primesL N W) ((primesL N W).length : Int) ((0 : Nat) : Int) (N : Int) (W : Int) = some (pick (primesL N W) ys, true) := by
   clear hk
   induction d with
   | zero => exact ⟨r1, r2⟩
   | succ d ih => exact ⟨(spec_EssentialPrimes.mono_l _).1 _ _ _ _ _ _ ih.1, impl_EssentialPrimes.mono_l _ _ _ _ _ _ _ _ _ ih.2⟩
  have hp := primes_are h (k := 1400000 + d) (by omega)
  rw [Int.toNat_natCast] at hp
  unfold spec_EssentialPrimes.f impl_EssentialPrimes.f
  simp only [spec_IsTable_is, impl_IsTable_is, h, Option.bind_some, if_true, hp.1, hp.2]
  exact hh
end Go.Proofs.Ytfiejicdlaknnaa.Pms

namespace Go.Proofs.Ytfiejicdlaknnaa.Pms
set_option linter.unusedVariables false
set_option linter.unusedSimpArgs false
open Go Go.RowKit Go.Proofs.Ytfiejicdlaknnaa.P Go.Proofs.Ytfiejicdlaknnaa.Bits Go.Proofs.Ytfiejicdlaknnaa.Tab Go.Proofs.Ytfiejicdlaknnaa.Shl Go.Proofs.Ytfiejicdlaknnaa.Imp Go.Proofs.Ytfiejicdlaknnaa.Pri Go.Proofs.Ytfiejicdlaknnaa.Prm Go.Proofs.Ytfiejicdlaknnaa.Ess Go.Proofs.Ytfiejicdlaknnaa.Tot Go.Proofs.Ytfiejicdlaknnaa.Min Go.Proofs.Ytfiejicdlaknnaa.Msm Go.Proofs.YtfiejicdlaknnaaW.PrintWords Go.Proofs.YtfiejicdlaknnaaW.PrintLast Go.Proofs.YtfiejicdlaknnaaW.PrintMore
theorem prime_good {N W : Nat} (hN : N ≤ 5) {t : S33} (h : t ∈ primesL N W) : isM (N : Int) t.f0 t.f1 = true := by
 obtain ⟨a, u, rfl, h1, h2, h3, h4⟩ := prime_nums hN h
 have hle : u &&& a ≤ a := Nat.and_le_right
 unfold isM
 rw [two_nat hN]
 simp only [Int.toNat_natCast]
 exact decide_eq_true ⟨by omega, by omega, by omega, by omega, by omega, by omega, h4⟩
theorem primes_good {N W : Nat} (hN : N ≤ 5) (l : List S33) (h : ∀ t ∈ l, t ∈ primesL N W) : good (N : Int) l = true := List.all_eq_true.mpr fun t ht => prime_good hN (h t ht)
theorem good_small {n : Int} {l : List S33} (h : good n l = true) : ∀ t ∈ l, t.f1 ≤ 9223372036854775807 := by
 intro t ht
 obtain ⟨N, a, u, hN, h5, ha, hu, h1, h2, h3, h4⟩ := isM_nums (List.all_eq_true.mp h t ht)
 omega
theorem tot_yes {N : Nat} (hN : N ≤ 5) (l : List S33) (hl : l.length ≤ 1048576) (hg : good (N : Int) l = true) : impl_TableOfTerms.f (N : Int) l = some ((N : Int), ((sumW l (2 ^ N) : Nat) : Int), true) := by
 obtain ⟨r, r1, r2⟩ := tot_same (N : Int) l hl (good_small hg)
 rw [r2, ← r1 1048700 (Nat.le_refl _)]
 unfold spec_TableOfTerms.f
 have := spec_tot_yes hN l hl hg l.length 0 1048700 (by omega) (by omega)
 have e0 : sumW (l.take 0) (2 ^ N) = 0 := by
  apply Nat.eq_of_testBit_eq
  intro i
  unfold sumW
  rw [testBit_wordOf]
  simp
 rw [e0] at this
 exact this
theorem sum_all {N W : Nat} (hW : W < 2 ^ 2 ^ N) : sumW (primesL N W) (2 ^ N) = W := by
 unfold sumW
 refine Eq.trans (wordOf_congr _ ?_) (wordOf_testBit W (2 ^ N) hW)
 intro x hx
 exact any_primes hx
theorem pick_mem {l : List S33} {x : List Nat} (h : ∀ a ∈ x, a < l.length) : ∀ t ∈ pick l x, t ∈ l := by
 intro t ht
 obtain ⟨a, ha, rfl⟩ := List.mem_map.mp ht
 exact rd_mem (h a ha)
theorem sum_pick {N W : Nat} (hW : W < 2 ^ 2 ^ N) {x : List Nat} (hx : Inc (primesL N W).length 0 x) (hc : Min.Cov (wsOf N (primesL N W)) W x) : sumW (pick (primesL N W) x) (2 ^ N) = W := by
 unfold sumW
 refine Eq.trans (wordOf_congr _ ?_) (wordOf_testBit W (2 ^ N) hW)
 intro p hp
 rw [Bool.eq_iff_iff, List.any_eq_true]
 constructor
 ·rintro ⟨t, ht, hh⟩
  exact hold_in (pick_mem (inc_mem hx) t ht) hp hh
 ·intro hb
  obtain ⟨a, h1, h2⟩ := hc p hb
  have ha := inc_mem hx a h1
  rw [ws_at ha, testBit_wordOf, Bool.and_eq_true] at h2
  exact ⟨_, List.mem_map.mpr ⟨a, h1, rfl⟩, h2.2⟩
theorem ess_in {N W : Nat} {x : List Nat} (hx : Inc (primesL N W).length 0 x) (hc : Min.Cov (wsOf N (primesL N W)) W x) {a : Nat} (ha : a < (primesL N W).length) (hE : E N (primesL N W) a) : a ∈ x := by
 obtain ⟨p, hp, hE⟩ := hE
 rw [Bool.and_eq_true] at hE
 have hb : W.testBit p = true := hold_in (rd_mem ha) hp hE.1
 obtain ⟨b, h1, h2⟩ := hc p hb
 have hbl := inc_mem hx b h1
 rw [ws_at hbl, testBit_wordOf, Bool.and_eq_true] at h2
 by_cases e : b = a
 ·subst e
  exact h1
 ·have := (rest_iff _ a p _).mp hE.2 b hbl e
  rw [h2.2] at this
  cases this
theorem inc_ge {L : Nat} : ∀ {x : List Nat} {i : Nat}, Inc L i x → ∀ a ∈ x, i ≤ a
 | [], _, _, a, ha => by simp at ha
 | b :: x, i, h, a, ha => by
  rcases List.mem_cons.1 ha with rfl | ha
  ·exact h.1
  ·have := inc_ge h.2.2 a ha
   have := h.1
   omega
theorem inc_apart {L : Nat} : ∀ {x : List Nat} {i : Nat}, Inc L i x → x.Pairwise (· ≠ ·)
 | [], _, _ => List.Pairwise.nil
 | b :: x, i, h => List.Pairwise.cons (fun a ha => by have := inc_ge h.2.2 a ha; omega) (inc_apart h.2.2)
theorem terms_law (n w : Int) (k : Nat) (hk : 1400001 ≤ k) : ∃ (m q d : List S33) (is pr es : Bool), m.length ≤ 1100 ∧ q.length ≤ 1100 ∧ d.length ≤ 1100 ∧
  spec_MinimalSum.f k n w = some (m, is) ∧ impl_MinimalSum.f k n w = some (m, is) ∧ spec_PrimesOf.f k n w = some (q, pr) ∧ impl_PrimesOf.f k n w = some (q, pr) ∧ spec_EssentialPrimes.f k n w = some (d, es) ∧ impl_EssentialPrimes.f k n w = some (d, es) ∧
  (∀ t ∈ q, ∃ N W : Nat, n = (N : Int) ∧ w = (W : Int) ∧ N ≤ 5 ∧ W < 2 ^ 2 ^ N ∧ isT n w = true ∧ t ∈ primesL N W) ∧
  (is = true → impl_TableOfTerms.f n m = some (n, w, true) ∧ impl_TableOfTerms.f n q = some (n, w, true) ∧ d.length ≤ m.length ∧ ∀ t ∈ d, t ∈ m) := by
 obtain ⟨m, is, m1, m2, m3⟩ := minimal_law n w
 obtain ⟨d, es, d1, d2, d3⟩ := essential_law n w
 have hm := m2 k (by omega)
 have hd := d2 k (by omega)
 cases h : isT n w
 ·have hp : spec_PrimesOf.f k n w = some ([], false) ∧ impl_PrimesOf.f k n w = some ([], false) := by
   unfold spec_PrimesOf.f impl_PrimesOf.f
   simp [spec_IsTable_is, impl_IsTable_is, h]
  refine ⟨m, [], d, is, false, es, m1, by simp, d1, hm.1, hm.2, hp.1, hp.2, hd.1, hd.2, by simp, ?_⟩
  intro his
  obtain ⟨N, W, x, rfl, rfl, h4, hW, hT, -⟩ := m3 his
  rw [hT] at h
  cases h
 ·have hN : ∃ N W : Nat, n = (N : Int) ∧ w = (W : Int) ∧ N ≤ 5 ∧ W < 2 ^ 2 ^ N := by
   obtain ⟨h0, h5, hw, hl⟩ := isT_yes h
   obtain ⟨N, rfl⟩ := Int.eq_ofNat_of_zero_le h0
   obtain ⟨W, rfl⟩ := Int.eq_ofNat_of_zero_le hw
   refine ⟨N, W, rfl, rfl, by omega, ?_⟩
   rw [lim_two h0 h5, two_nat (by omega), Int.toNat_natCast] at hl
   have e : ((2 : Int) ^ (2 ^ N)) = ((2 ^ 2 ^ N : Nat) : Int) := by push_cast; rfl
   rw [e] at hl
   omega
  obtain ⟨N, W, rfl, rfl, h5, hW⟩ := hN
  have hlen : (primesL N W).length ≤ 1056 := primesL_len W h5
  have hp : spec_PrimesOf.f k (N : Int) (W : Int) = some (primesL N W, true) ∧ impl_PrimesOf.f k (N : Int) (W : Int) = some (primesL N W, true) := by
   have hq := primes_are h (k := k) (by omega)
   rw [Int.toNat_natCast] at hq
   unfold spec_PrimesOf.f impl_PrimesOf.f
   simp only [spec_IsTable_is, impl_IsTable_is, h, Option.bind_some, if_true, hq.1, hq.2, and_self]
  refine ⟨m, primesL N W, d, is, true, es, m1, by omega, d1, hm.1, hm.2, hp.1, hp.2, hd.1, hd.2, fun t ht => ⟨N, W, rfl, rfl, h5, hW, rfl, ht⟩, ?_⟩
  intro his
  obtain ⟨N', W', x, e1, e2, h4, -, -, x1, x2, x3⟩ := m3 his
  obtain rfl : N = N' := by omega
  obtain rfl : W = W' := by omega
  obtain ⟨ys, y1, y2, y3⟩ := d3 N W rfl rfl h
  have hin : ∀ a ∈ ys, a ∈ x := fun a ha => ess_in x1 x2 (inc_mem y1 a ha) (y2 a ha)
  refine ⟨?_, ?_, ?_, ?_⟩
  ·rw [x3, tot_yes h5 _ (by rw [← x3]; omega) (primes_good h5 _ (pick_mem (inc_mem x1))), sum_pick hW x1 x2]
  ·rw [tot_yes h5 _ (by omega) (primes_good h5 _ fun t ht => ht), sum_all hW]
  ·rw [x3, y3]
   unfold pick
   rw [List.length_map, List.length_map]
   exact nodup_len ys x (inc_apart y1) hin
  ·intro t ht
   rw [y3] at ht
   obtain ⟨a, ha, rfl⟩ := List.mem_map.mp ht
   rw [x3]
   exact List.mem_map.mpr ⟨a, hin a ha, rfl⟩
end Go.Proofs.Ytfiejicdlaknnaa.Pms
