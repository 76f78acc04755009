/- The law FnExactMinimalSum: its plain function answers true for all its arguments. No conditions but those of the statement. -/
import Derived.Test.YtgkmgiojbiikgaaMsm
import Derived.Test.YtgkmgiojbiikgaaTms
import Derived.Test.YtgkmgiojbiikgaaPLFnExactMinimalSum
import Derived.Test.YtgkmgiojbiikgaaGmt
import Derived.Test.YtgkmgiojbiikgaaPLFnExactMinimalSum
import Derived.Test.YtgkmgiojbiikgaaPb2
import Derived.Test.YtgkmgiojbiikgaaPrw
import Derived.Test.YtgkmgiojbiikgaaPv5
import Derived.Test.YtgkmgiojbiikgaaPz4
namespace Go.Proofs.Ytgkmgiojbiikgaa.Pure
set_option linter.unusedVariables false
set_option linter.unusedSimpArgs false
open Go Go.RowKit Go.Proofs.Ytgkmgiojbiikgaa.P Go.Proofs.Ytgkmgiojbiikgaa.Bits Go.Proofs.Ytgkmgiojbiikgaa.Tab Go.Proofs.Ytgkmgiojbiikgaa.Shl Go.Proofs.Ytgkmgiojbiikgaa.Prm Go.Proofs.Ytgkmgiojbiikgaa.Ess Go.Proofs.Ytgkmgiojbiikgaa.Min Go.Proofs.Ytgkmgiojbiikgaa.Msm Go.Proofs.Ytgkmgiojbiikgaa.Tms Go.Proofs.YtgkmgiojbiikgaaW.PrintWords Go.Proofs.YtgkmgiojbiikgaaW.PrintLast Go.Proofs.YtgkmgiojbiikgaaW.PrintMore

theorem sum_one {n W : Nat} (hn : n ≤ 5) {l : List S28} (hl : l = primesL n W) {i : Nat} (hi : i < l.length) : impl_sumOf.f (n : Int) [(⟨(rd_T28 l (i : Int)).f0, (rd_T28 l (i : Int)).f1⟩ : S28)] = some ((n : Int), ((wAt (wsOf n l) i : Nat) : Int)) := by
  unfold impl_sumOf.f
  rw [if_pos ⟨by omega, by omega, by simp⟩, ws_at hi, Int.toNat_natCast]
  congr 3
  have h32 := pow_le_32 hn
  apply wordOf_congr
  intro x hx
  simp only [List.any_cons, List.any_nil, Bool.or_false]
  exact holdsB_is hn (by rw [← hl]; exact rd_mem hi) (by omega)

theorem words_loop {n W : Nat} (hn : n ≤ 5) {l : List S28} (hl : l = primesL n W) (w : Int) : ∀ (d i K : Nat), i + d = l.length → d < K →
    impl_Table_minimal.l0 K l ((wsI n l).take i ++ List.replicate d 0) l (l.length : Int) (i : Int) (n : Int) w = impl_Table_minimal.l1 (K - d - 1) l (wsI n l) ((l.length : Int) + 1) 0 (n : Int) w := by
  have hlen : l.length ≤ 1056 := by rw [hl]; exact primesL_len W hn
  have hwl := wsI_len n l
  intro d
  induction d with
  | zero =>
    intro i K hi hK
    obtain ⟨K, rfl⟩ : ∃ q, K = q + 1 := ⟨K - 1, by omega⟩
    simp only [impl_Table_minimal.l0]
    rw [if_neg (by omega), w64 (by omega) (by omega), List.take_of_length_le (by omega)]
    simp
  | succ d ih =>
    intro i K hi hK
    obtain ⟨K, rfl⟩ : ∃ q, K = q + 1 := ⟨K - 1, by omega⟩
    have hil : i < l.length := by omega
    simp only [impl_Table_minimal.l0]
    rw [if_pos (show (i : Int) < (l.length : Int) by omega), if_pos (show 0 ≤ (i : Int) by omega), if_pos (show (i : Int) < (l.length : Int) by omega), sum_one hn hl hil]
    simp only [Option.bind_some]
    have hll : ((wsI n l).take i ++ List.replicate (d + 1) (0 : Int)).length = l.length := by simp [hwl]; omega
    rw [if_pos (by rw [hll]; omega), w64 (by omega) (by omega), Int.toNat_natCast]
    have hti : ((wsI n l).take i).length = i := by rw [List.length_take]; omega
    have e : ((wsI n l).take i ++ List.replicate (d + 1) (0 : Int)).set i ((wAt (wsOf n l) i : Nat) : Int) = (wsI n l).take (i + 1) ++ List.replicate d 0 := by
      rw [List.set_append_right _ _ (by omega), hti, Nat.sub_self, List.replicate_succ, List.set_cons_zero, List.take_succ_eq_append_getElem (by omega), List.append_assoc]
      congr 1
      have := wsI_at n l i
      unfold rd at this
      rw [Int.toNat_natCast, List.getD_eq_getElem?_getD, List.getElem?_eq_getElem (by omega)] at this
      simp only [Option.getD_some] at this
      rw [← this]
      rfl
    rw [e, show (i : Int) + 1 = ((i + 1 : Nat) : Int) from by omega, ih (i + 1) K (by omega) (by omega)]
    congr 1
    omega

theorem out_loop (l : List S28) (x : List Nat) (hx : ∀ a ∈ x, a < l.length) (hl : l.length ≤ 1056) (hxl : x.length ≤ 1056) : ∀ (d i K : Nat), i + d = x.length → d < K →
    impl_Table_minimal.l2 K l ((x.take i).map fun (j : Nat) => rd_T28 l (j : Int)) (x.map fun (j : Nat) => (j : Int)) (x.length : Int) (i : Int) = some (x.map fun (j : Nat) => rd_T28 l (j : Int)) := by
  intro d
  induction d with
  | zero =>
    intro i K hi hK
    obtain ⟨K, rfl⟩ : ∃ q, K = q + 1 := ⟨K - 1, by omega⟩
    simp only [impl_Table_minimal.l2]
    rw [if_neg (by omega), List.take_of_length_le (by omega)]
  | succ d ih =>
    intro i K hi hK
    obtain ⟨K, rfl⟩ : ∃ q, K = q + 1 := ⟨K - 1, by omega⟩
    have hil : i < x.length := by omega
    have ea : rd (x.map fun (j : Nat) => (j : Int)) (i : Int) = ((x[i] : Nat) : Int) := by
      unfold rd
      rw [Int.toNat_natCast, List.getD_eq_getElem?_getD, List.getElem?_map, List.getElem?_eq_getElem hil]
      rfl
    have hlt := hx x[i] (List.getElem_mem hil)
    simp only [impl_Table_minimal.l2, List.length_map, ea]
    rw [if_pos (show (i : Int) < (x.length : Int) by omega), if_pos (show 0 ≤ (i : Int) by omega), if_pos (show (i : Int) < (x.length : Int) by omega), if_pos (by omega), if_pos (by omega), if_pos (by rw [List.length_take]; omega), w64 (by omega) (by omega)]
    have ih' := ih (i + 1) K (by omega) (by omega)
    rw [List.take_succ_eq_append_getElem hil, List.map_append, show ((i + 1 : Nat) : Int) = (i : Int) + 1 from by omega] at ih'
    exact ih'

theorem inc_mem {L : Nat} : ∀ {x : List Nat} {i : Nat}, Inc L i x → ∀ a ∈ x, a < L
  | [], _, _, a, ha => by simp at ha
  | b :: x, i, h, a, ha => by
    rcases List.mem_cons.1 ha with rfl | ha
    · exact h.2.1
    · exact inc_mem h.2.2 a ha

theorem spec_many {n W : Nat} (hn : n ≤ 5) (hW : W < 2 ^ 32) {l : List S28} (hl : l = primesL n W) (K0 : Nat) (hK0 : K0 ≤ 8) (x : List Nat) (hx : F (wsOf n l) l.length K0 W 0 = some x) (hno : ∀ k, k < K0 → F (wsOf n l) l.length k W 0 = none) :
    ∀ (d k K : Nat), k + d = K0 → d + 2 * l.length + 60 ≤ K → spec_MinimalSum.l0 K l (k : Int) (n : Int) (W : Int) = some (x.map fun (j : Nat) => rd_T28 l (j : Int), true) := by
  intro d
  induction d with
  | zero =>
    intro k K hk hK
    obtain ⟨K, rfl⟩ : ∃ q, K = q + 1 := ⟨K - 1, by omega⟩
    obtain rfl : k = K0 := by omega
    simp only [spec_MinimalSum.l0]
    rw [if_pos (by omega), cover_f hn hl (W : Int) K k W hW (by omega) (by omega), hx]
    simp [ansS]
  | succ d ih =>
    intro k K hk hK
    obtain ⟨K, rfl⟩ : ∃ q, K = q + 1 := ⟨K - 1, by omega⟩
    simp only [spec_MinimalSum.l0]
    rw [if_pos (by omega), cover_f hn hl (W : Int) K k W hW (by omega) (by omega), hno k (by omega)]
    simp only [ansS, Option.bind_some]
    rw [if_neg (by decide), w64 (by omega) (by omega)]
    exact ih (k + 1) K (by omega) (by omega)

theorem impl_many {n W : Nat} (hn : n ≤ 5) {l : List S28} (hl : l = primesL n W) (K0 : Nat) (hK0 : K0 ≤ l.length) (x : List Nat) (hx : C (wsOf n l) W l.length K0 0 0 = some x) (hinc : Inc l.length 0 x) (hno : ∀ k, k < K0 → C (wsOf n l) W l.length k 0 0 = none) :
    ∀ (d k K : Nat), k + d = K0 → d + 2 * l.length + 60 ≤ K → impl_Table_minimal.l1 K l (wsI n l) ((l.length : Int) + 1) (k : Int) (n : Int) (W : Int) = some (x.map fun (j : Nat) => rd_T28 l (j : Int)) := by
  have hlen : l.length ≤ 1056 := by rw [hl]; exact primesL_len W hn
  have hxl := hinc.length
  intro d
  induction d with
  | zero =>
    intro k K hk hK
    obtain ⟨K, rfl⟩ : ∃ q, K = q + 1 := ⟨K - 1, by omega⟩
    obtain rfl : k = K0 := by omega
    simp only [impl_Table_minimal.l1]
    rw [if_pos (by omega), choose_f hn hl K k hK0 (by omega), hx]
    simp only [ansI, Option.bind_some, if_true, List.length_map]
    exact out_loop l x (inc_mem hinc) hlen (by omega) x.length 0 K (by omega) (by omega)
  | succ d ih =>
    intro k K hk hK
    obtain ⟨K, rfl⟩ : ∃ q, K = q + 1 := ⟨K - 1, by omega⟩
    simp only [impl_Table_minimal.l1]
    rw [if_pos (by omega), choose_f hn hl K k (by omega) (by omega), hno k (by omega)]
    simp only [ansI, Option.bind_some]
    rw [if_neg (by decide), w64 (by omega) (by omega)]
    exact ih (k + 1) K (by omega) (by omega)

theorem least_of (p : Nat → Prop) (m : Nat) (h : p m) : ∃ k, k ≤ m ∧ p k ∧ ∀ j, j < k → ¬ p j := by
  induction m using Nat.strongRecOn with
  | ind m ih =>
    by_cases hh : ∃ j, j < m ∧ p j
    · obtain ⟨j, h1, h2⟩ := hh
      obtain ⟨k, g1, g2, g3⟩ := ih j h1 h2
      exact ⟨k, by omega, g2, g3⟩
    · exact ⟨m, Nat.le_refl _, h, fun j hj q => hh ⟨j, hj, q⟩⟩

theorem minimal_core {n W : Nat} (hn : n ≤ 4) (hW : W < 2 ^ 2 ^ n) (hT : isT (n : Int) (W : Int) = true) : ∃ r : List S28, r.length ≤ 1100 ∧ ∀ K, 9999 ≤ K → spec_MinimalSum.f (K + 1) (n : Int) (W : Int) = some (r, true) ∧ impl_MinimalSum.f (K + 1) (n : Int) (W : Int) = some (r, true) := by
  obtain ⟨l, hl⟩ : ∃ l, l = primesL n W := ⟨_, rfl⟩
  have hlen : l.length ≤ 1056 := by rw [hl]; exact primesL_len W (by omega)
  have hW32 : W < 2 ^ 32 := Nat.lt_of_lt_of_le hW (Nat.pow_le_pow_right (by decide) (pow_le_32 (show n ≤ 5 by omega)))
  obtain ⟨x8, e1, e2, e3⟩ := eight hn hW hl
  obtain ⟨y8, hy8⟩ := F_complete (wsOf n l) l.length 8 W 0 x8 (by rw [Nat.zero_add]; exact e1) e2 e3
  obtain ⟨K0, hK0, ⟨x, hx⟩, hno⟩ := least_of (fun k => ∃ y, F (wsOf n l) l.length k W 0 = some y) 8 ⟨y8, hy8⟩
  have hno' : ∀ k, k < K0 → F (wsOf n l) l.length k W 0 = none := by
    intro k hk
    cases hf : F (wsOf n l) l.length k W 0 with
    | none => rfl
    | some y => exact absurd ⟨y, hf⟩ (hno k hk)
  obtain ⟨f1, f2, f3⟩ := F_sound _ hx
  rw [Nat.zero_add] at f1
  have hmin : ∀ y, Inc (0 + l.length) 0 y → y.length < K0 → ¬ Cov (wsOf n l) W y := by
    intro y h1 h2 h3
    obtain ⟨z, hz⟩ := F_complete (wsOf n l) l.length y.length W 0 y h1 (Nat.le_refl _) h3
    rw [hno' _ h2] at hz
    cases hz
  have hxl := f1.length
  have hKl : K0 ≤ l.length := by
    rcases Nat.lt_or_ge x.length K0 with h | h
    · exact absurd f3 (hmin x (by rw [Nat.zero_add]; exact f1) h)
    · omega
  have c0 : cut W 0 = W := by
    apply Nat.eq_of_testBit_eq
    intro i
    rw [bit_cut, Nat.zero_testBit]
    simp
  have hsame := same (wsOf n l) W (ws_sub hl) l.length K0 0 0 (by simp) (by rw [c0]; exact hmin)
  rw [c0, hx] at hsame
  have hnoC : ∀ k, k < K0 → C (wsOf n l) W l.length k 0 0 = none := by
    intro k hk
    cases hf : C (wsOf n l) W l.length k 0 0 with
    | none => rfl
    | some y =>
      obtain ⟨g1, g2, g3⟩ := C_sound (wsOf n l) W (ws_sub hl) l.length k 0 0 y (by simp) hf
      rw [c0] at g3
      exact absurd g3 (hmin y g1 (by omega))
  refine ⟨x.map fun (j : Nat) => rd_T28 l (j : Int), by simp; omega, fun K hK => ⟨?_, ?_⟩⟩
  · have hp := (primes_are hT (k := K) (by omega)).1
    rw [Int.toNat_natCast, ← hl] at hp
    unfold spec_MinimalSum.f
    rw [spec_IsTable_is, hT]
    simp only [Option.bind_some, if_true]
    rw [decide_eq_false (by omega)]
    simp only [spec_MinimalSum.j0, Bool.false_eq_true, if_false]
    rw [hp]
    exact spec_many (by omega) hW32 hl K0 hK0 x hx hno' K0 0 K (by omega) (by omega)
  · have hp := (primes_are hT (k := K + 1) (by omega)).2
    rw [Int.toNat_natCast, ← hl] at hp
    unfold impl_MinimalSum.f impl_isSmall.f
    rw [impl_IsTable_is, hT]
    simp only [Option.bind_some, if_true]
    rw [decide_eq_true (show (n : Int) ≤ 4 by omega)]
    simp only [if_true]
    unfold impl_Table_minimal.f
    rw [hp]
    simp only [Option.bind_some, Int.toNat_natCast]
    rw [if_pos (by omega), if_pos (by omega)]
    have w1 := words_loop (show n ≤ 5 by omega) hl (W : Int) l.length 0 (K + 1) (by omega) (by omega)
    rw [List.take_zero, List.nil_append, Int.natCast_zero] at w1
    have w2 := impl_many (show n ≤ 5 by omega) hl K0 hKl x hsame.symm f1 hnoC K0 0 (K + 1 - l.length - 1) (by omega) (by omega)
    rw [Int.natCast_zero] at w2
    rw [w1, w2]
    rfl

theorem minimal_same (n w : Int) : ∃ r : List S28 × Bool, r.1.length ≤ 1100 ∧ ∀ k, 10000 ≤ k → spec_MinimalSum.f k n w = some r ∧ impl_MinimalSum.f k n w = some r := by
  have nos : ∀ (b : Bool) (K : Nat), isT n w = b → (b = false ∨ ¬ n ≤ 4) → spec_MinimalSum.f (K + 1) n w = some ([], false) ∧ impl_MinimalSum.f (K + 1) n w = some ([], false) := by
    intro b K hb hh
    have ej : spec_MinimalSum.j0 (K + 1) true n w = some ([], false) := by
      simp only [spec_MinimalSum.j0, if_true]
    unfold spec_MinimalSum.f impl_MinimalSum.f impl_isSmall.f
    rw [spec_IsTable_is, impl_IsTable_is, hb]
    simp only [Option.bind_some]
    cases b
    · simp [ej]
    · rcases hh with hh | hh
      · cases hh
      · rw [decide_eq_true (show n > 4 by omega), decide_eq_false hh]
        simp [ej]
  cases h : isT n w
  · refine ⟨([], false), by simp, fun k hk => ?_⟩
    obtain ⟨K, rfl⟩ : ∃ K, k = K + 1 := ⟨k - 1, by omega⟩
    exact nos false K h (Or.inl rfl)
  · by_cases h4 : n ≤ 4
    · obtain ⟨h0, h5, hw, hl⟩ := isT_yes h
      obtain ⟨N, rfl⟩ := Int.eq_ofNat_of_zero_le h0
      obtain ⟨W, rfl⟩ := Int.eq_ofNat_of_zero_le hw
      have hW : W < 2 ^ 2 ^ N := by
        rw [lim_two h0 h5, two_nat (by omega), Int.toNat_natCast] at hl
        have e : ((2 : Int) ^ (2 ^ N)) = ((2 ^ 2 ^ N : Nat) : Int) := by push_cast; rfl
        rw [e] at hl
        omega
      obtain ⟨r, r0, r1⟩ := minimal_core (show N ≤ 4 by omega) hW h
      refine ⟨(r, true), r0, fun k hk => ?_⟩
      obtain ⟨K, rfl⟩ : ∃ K, k = K + 1 := ⟨k - 1, by omega⟩
      exact r1 K (by omega)
    · refine ⟨([], false), by simp, fun k hk => ?_⟩
      obtain ⟨K, rfl⟩ : ∃ K, k = K + 1 := ⟨k - 1, by omega⟩
      exact nos true K h (Or.inr h4)

theorem FnExactMinimalSum : laws_FnExactMinimalSum.Pure := by
  intro n w _ _
  obtain ⟨K, hK⟩ : ∃ K, K = 10100 := ⟨_, rfl⟩
  refine ⟨K + 1 + 1, ?_⟩
  obtain ⟨r, r0, r1⟩ := minimal_same n w
  obtain ⟨y, m1, m2⟩ := mark_held r.1 (by omega) (k := K + 1) (by omega)
  unfold laws_FnExactMinimalSum.f laws_toTable.f
  simp only [Option.bind_some, (r1 (K + 1 + 1) (by omega)).1, (r1 (K + 1 + 1) (by omega)).2, eq_self r.1 (by omega) (k := K + 1 + 1) (by omega), if_true, bne_self_eq_false]
  simp only [laws_FnExactMinimalSum.j0, Bool.false_eq_true, if_false, m1, m2 (K + 1) (by omega), Option.bind_some, laws_toTable.f, (r1 (K + 1) (by omega)).2, eq_self r.1 (by omega) (k := K + 1) (by omega), if_true, bne_self_eq_false, laws_FnExactMinimalSum.j1, m2 K (by omega)]
  rw [if_neg (show ¬ (2 * (r.1.length : Int) + 1 < 0) by omega), if_neg (show ¬ (2 * (r.1.length : Int) + 1 < 0) by omega)]

end Go.Proofs.Ytgkmgiojbiikgaa.Pure
