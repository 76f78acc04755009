/- Minimal sums: the reference's and the program's answers are the same. Conditions: the bounds that stand in each. -/
import Derived.Test.YtgkmgiojbiikgaaPrw
import Derived.Test.YtgkmgiojbiikgaaMin
import Derived.Test.YtgkmgiojbiikgaaPrw
import Derived.Test.YtgkmgiojbiikgaaPv5
namespace Go.Proofs.Ytgkmgiojbiikgaa.Msm
set_option linter.unusedVariables false
set_option linter.unusedSimpArgs false
open Go Go.RowKit Go.Proofs.Ytgkmgiojbiikgaa.P Go.Proofs.Ytgkmgiojbiikgaa.Bits Go.Proofs.Ytgkmgiojbiikgaa.Tab Go.Proofs.Ytgkmgiojbiikgaa.Shl Go.Proofs.Ytgkmgiojbiikgaa.Imp Go.Proofs.Ytgkmgiojbiikgaa.Pri Go.Proofs.Ytgkmgiojbiikgaa.Prm Go.Proofs.Ytgkmgiojbiikgaa.Ess Go.Proofs.Ytgkmgiojbiikgaa.Min Go.Proofs.YtgkmgiojbiikgaaW.PrintWords Go.Proofs.YtgkmgiojbiikgaaW.PrintLast Go.Proofs.YtgkmgiojbiikgaaW.PrintMore

def wsOf (n : Nat) (l : List S28) : List Nat := l.map fun t => wordOf (hold t) (2 ^ n)

theorem ws_len (n : Nat) (l : List S28) : (wsOf n l).length = l.length := by simp [wsOf]
theorem ws_at {n : Nat} {l : List S28} {i : Nat} (h : i < l.length) : wAt (wsOf n l) i = wordOf (hold (rd_T28 l (i : Int))) (2 ^ n) := by
  unfold wAt wsOf
  rw [List.getD_eq_getElem?_getD, List.getElem?_map, List.getElem?_eq_getElem h, rd_at h]
  rfl
theorem ws_off {n : Nat} {l : List S28} {i : Nat} (h : l.length ≤ i) : wAt (wsOf n l) i = 0 := by
  unfold wAt
  rw [List.getD_eq_getElem?_getD, List.getElem?_eq_none (by rw [ws_len]; exact h)]
  rfl
theorem ws_sub {n W : Nat} {l : List S28} (hl : l = primesL n W) (i : Nat) : wAt (wsOf n l) i &&& W = wAt (wsOf n l) i := by
  rcases Nat.lt_or_ge i l.length with h | h
  · rw [ws_at h]
    apply Nat.eq_of_testBit_eq
    intro x
    rw [Nat.testBit_and, testBit_wordOf]
    by_cases hx : x < 2 ^ n
    · cases hh : hold (rd_T28 l (i : Int)) x
      · simp
      · rw [hold_in (by rw [← hl]; exact rd_mem h) hx hh]
        simp
    · simp [hx]
  · rw [ws_off h]
    simp
theorem ws_small {n : Nat} (hn : n ≤ 5) (l : List S28) (i : Nat) : wAt (wsOf n l) i < 2 ^ 32 := by
  rcases Nat.lt_or_ge i l.length with h | h
  · rw [ws_at h]
    exact Nat.lt_of_lt_of_le (wordOf_lt _ _) (Nat.pow_le_pow_right (by decide) (pow_le_32 hn))
  · rw [ws_off h]
    decide

def ansS (l : List S28) : Option (List Nat) → List S28 × Bool
  | some x => (x.map fun (j : Nat) => rd_T28 l (j : Int), true)
  | none => ([], false)
def ansI : Option (List Nat) → List Int × Bool
  | some x => (x.map fun (j : Nat) => (j : Int), true)
  | none => ([], false)

theorem cut_small {a b : Nat} (h : a < 2 ^ 32) : cut a b < 2 ^ 32 := by
  unfold cut
  exact Nat.xor_lt_two_pow h (Nat.lt_of_le_of_lt Nat.and_le_left h)

theorem cover_l0 {n W : Nat} (hn : n ≤ 5) {l : List S28} (hl : l = primesL n W) (w : Int) : ∀ (d K k left i : Nat), i + d = l.length → left < 2 ^ 32 → 1 ≤ k → k ≤ 100 → 2 * d + 40 ≤ K →
    spec_l6Cover.l0 K l (left : Int) (k : Int) (i : Int) (n : Int) w = some (ansS l (G (wsOf n l) d k left i)) := by
  have hlen : l.length ≤ 1056 := by rw [hl]; exact primesL_len W hn
  have h32 := pow_le_32 hn
  intro d
  induction d with
  | zero =>
    intro K k left i hi hleft hk hk2 hK
    obtain ⟨K, rfl⟩ : ∃ q, K = q + 1 := ⟨K - 1, by omega⟩
    simp only [spec_l6Cover.l0]
    rw [if_neg (by omega)]
    rfl
  | succ d ih =>
    intro K k left i hi hleft hk hk2 hK
    obtain ⟨K, rfl⟩ : ∃ q, K = q + 1 := ⟨K - 1, by omega⟩
    have hil : i < l.length := by omega
    have hm : rd_T28 l (i : Int) ∈ primesL n W := by rw [← hl]; exact rd_mem hil
    have hwz := ws_small hn l i
    have hcz := cut_small (b := wAt (wsOf n l) i) hleft
    have next := ih K k left (i + 1) (by omega) hleft hk hk2 (by omega)
    have hw1 : Aside0 (wrap64 ((i : Int) + 1) = ((i + 1 : Nat) : Int)) := ⟨by rw [w64 (by omega) (by omega)]; omega⟩
    rw [G_succ]
    simp only [spec_l6Cover.l0]
    rw [if_pos (show (i : Int) < (l.length : Int) by omega), if_pos (show 0 ≤ (i : Int) by omega), word_is hn hm (by omega)]
    simp only [Option.bind_some]
    rw [← ws_at hil, hw1.out]
    generalize wAt (wsOf n l) i = v at *
    have e1 : bits .and .i64 (v : Int) (left : Int) = ((v &&& left : Nat) : Int) := and_nat _ _ (by rw [p63]; omega) (by rw [p63]; omega)
    have e2 : bits .and .i64 (left : Int) (v : Int) = ((left &&& v : Nat) : Int) := and_nat _ _ (by rw [p63]; omega) (by rw [p63]; omega)
    have hle : left &&& v ≤ left := Nat.and_le_left
    have e3 : Aside0 (wrap64 ((left : Int) - ((left &&& v : Nat) : Int)) = ((cut left v : Nat) : Int)) := ⟨by
      rw [w64 (by omega) (by omega)]
      unfold cut
      rw [← sub_and]
      omega⟩
    have e4 : Aside0 (wrap64 ((k : Int) - 1) = ((k - 1 : Nat) : Int)) := ⟨by rw [w64 (by omega) (by omega)]; omega⟩
    rw [e1, e2, e3.out, e4.out]
    by_cases hs : v &&& left = 0
    · rw [if_pos (by omega), if_pos hs]
      exact next
    · rw [if_neg (by omega), if_neg hs]
      have ef : spec_l6Cover.f K (n : Int) w l ((i + 1 : Nat) : Int) ((cut left v : Nat) : Int) ((k - 1 : Nat) : Int) = some (ansS l (F (wsOf n l) d (k - 1) (cut left v) (i + 1))) := by
        obtain ⟨K, rfl⟩ : ∃ q, K = q + 1 := ⟨K - 1, by omega⟩
        simp only [spec_l6Cover.f]
        unfold F
        by_cases h0 : cut left v = 0
        · rw [if_pos (by omega), if_pos h0]
          rfl
        · rw [if_neg (by omega), if_neg h0]
          by_cases h1 : k - 1 = 0
          · rw [if_pos (by omega), if_pos h1]
            rfl
          · rw [if_neg (by omega), if_neg h1]
            exact ih K (k - 1) (cut left v) (i + 1) (by omega) hcz (by omega) (by omega) (by omega)
      rw [ef]
      simp only [Option.bind_some]
      cases hf : F (wsOf n l) d (k - 1) (cut left v) (i + 1) with
      | none =>
        show (if (ansS l none).2 = true then _ else _) = _
        rw [if_neg (by simp [ansS])]
        exact next
      | some x =>
        obtain ⟨g1, _, _⟩ := F_sound _ hf
        have := g1.length
        show (if (ansS l (some x)).2 = true then _ else _) = _
        rw [if_pos (by simp [ansS]), if_pos (by simp [ansS]; omega)]
        rfl

theorem cover_f {n W : Nat} (hn : n ≤ 5) {l : List S28} (hl : l = primesL n W) (w : Int) (K k left : Nat) (hleft : left < 2 ^ 32) (hk2 : k ≤ 100) (hK : 2 * l.length + 41 ≤ K) :
    spec_l6Cover.f K (n : Int) w l 0 (left : Int) (k : Int) = some (ansS l (F (wsOf n l) l.length k left 0)) := by
  obtain ⟨K, rfl⟩ : ∃ q, K = q + 1 := ⟨K - 1, by omega⟩
  simp only [spec_l6Cover.f]
  unfold F
  by_cases h0 : left = 0
  · rw [if_pos (by omega), if_pos h0]
    rfl
  · rw [if_neg (by omega), if_neg h0]
    by_cases h1 : k = 0
    · rw [if_pos (by omega), if_pos h1]
      rfl
    · rw [if_neg (by omega), if_neg h1]
      exact cover_l0 hn hl w l.length K k left 0 (by omega) hleft (by omega) hk2 (by omega)

def wsI (n : Nat) (l : List S28) : List Int := (wsOf n l).map fun (v : Nat) => (v : Int)
theorem wsI_len (n : Nat) (l : List S28) : (wsI n l).length = l.length := by simp [wsI, wsOf]
theorem wsI_at (n : Nat) (l : List S28) (i : Nat) : rd (wsI n l) (i : Int) = ((wAt (wsOf n l) i : Nat) : Int) := by
  unfold rd wAt wsI
  rw [Int.toNat_natCast, List.getD_eq_getElem?_getD, List.getD_eq_getElem?_getD, List.getElem?_map]
  cases (wsOf n l)[i]? <;> rfl

theorem or_small {a b : Nat} (ha : a < 2 ^ 32) (hb : b < 2 ^ 32) : a ||| b < 2 ^ 32 := Nat.or_lt_two_pow ha hb

theorem choose_l0 {n W : Nat} (hn : n ≤ 5) {l : List S28} (hl : l = primesL n W) : ∀ (d K k hv i : Nat), i + d = l.length → hv < 2 ^ 32 → 1 ≤ k → k ≤ l.length → 2 * d + 40 ≤ K →
    impl_choose.l0 K (wsI n l) (W : Int) (hv : Int) (k : Int) (i : Int) = some (ansI (H (wsOf n l) W d k hv i)) := by
  have hlen : l.length ≤ 1056 := by rw [hl]; exact primesL_len W hn
  intro d
  induction d with
  | zero =>
    intro K k hv i hi hhv hk hk2 hK
    obtain ⟨K, rfl⟩ : ∃ q, K = q + 1 := ⟨K - 1, by omega⟩
    simp only [impl_choose.l0, wsI_len]
    rw [w64 (by omega) (by omega), if_neg (by omega)]
    rfl
  | succ d ih =>
    intro K k hv i hi hhv hk hk2 hK
    obtain ⟨K, rfl⟩ : ∃ q, K = q + 1 := ⟨K - 1, by omega⟩
    have hil : i < l.length := by omega
    have hwz := ws_small hn l i
    have next := ih K k hv (i + 1) (by omega) hhv hk hk2 (by omega)
    have hw1 : Aside0 (wrap64 ((i : Int) + 1) = ((i + 1 : Nat) : Int)) := ⟨by rw [w64 (by omega) (by omega)]; omega⟩
    have e4 : Aside0 (wrap64 ((k : Int) - 1) = ((k - 1 : Nat) : Int)) := ⟨by rw [w64 (by omega) (by omega)]; omega⟩
    rw [H_succ]
    simp only [impl_choose.l0, wsI_len, wsI_at]
    rw [w64 (x := (l.length : Int) - (k : Int)) (by omega) (by omega), hw1.out, e4.out]
    by_cases hkd : k ≤ d + 1
    · rw [if_pos (show (i : Int) ≤ (l.length : Int) - (k : Int) by omega), if_pos hkd, if_pos (show 0 ≤ (i : Int) by omega), if_pos (show (i : Int) < (l.length : Int) by omega)]
      generalize wAt (wsOf n l) i = v at *
      have e1 : bits .andNot .i64 (v : Int) (hv : Int) = ((cut v hv : Nat) : Int) := andNot_nat _ _ (by rw [p63]; omega) (by rw [p63]; omega)
      have e2 : bits .or .i64 (hv : Int) (v : Int) = ((hv ||| v : Nat) : Int) := or_nat _ _ (by rw [p63]; omega) (by rw [p63]; omega)
      have hoz := or_small hhv hwz
      rw [e1, e2]
      by_cases hs : cut v hv = 0
      · rw [if_pos (by omega), if_pos hs]
        exact next
      · rw [if_neg (by omega), if_neg hs]
        have ef : impl_choose.f K (wsI n l) (W : Int) ((hv ||| v : Nat) : Int) ((i + 1 : Nat) : Int) ((k - 1 : Nat) : Int) = some (ansI (C (wsOf n l) W d (k - 1) (hv ||| v) (i + 1))) := by
          obtain ⟨K, rfl⟩ : ∃ q, K = q + 1 := ⟨K - 1, by omega⟩
          simp only [impl_choose.f]
          unfold C
          by_cases h1 : k - 1 = 0
          · rw [if_pos (by omega), if_pos h1]
            by_cases h2 : hv ||| v = W
            · rw [if_pos h2, show ((((hv ||| v : Nat) : Int)) == (W : Int)) = true from by rw [h2, beq_self_eq_true]]
              rfl
            · rw [if_neg h2, show ((((hv ||| v : Nat) : Int)) == (W : Int)) = false from by rw [beq_eq_false_iff_ne]; omega]
              rfl
          · rw [if_neg (by omega), if_neg h1]
            exact ih K (k - 1) (hv ||| v) (i + 1) (by omega) hoz (by omega) (by omega) (by omega)
        rw [ef]
        simp only [Option.bind_some]
        cases hf : C (wsOf n l) W d (k - 1) (hv ||| v) (i + 1) with
        | none =>
          show (if (ansI none).2 = true then _ else _) = _
          rw [if_neg (by simp [ansI])]
          exact next
        | some x =>
          have hxl : x.length ≤ 2000 := by
            clear next ef ih
            have : ∀ (d k hv i : Nat) (x : List Nat), C (wsOf n l) W d k hv i = some x → x.length ≤ k := by
              intro d
              induction d with
              | zero =>
                intro k hv i x h
                unfold C at h
                split at h
                · split at h
                  · obtain rfl := Option.some.inj h; simp
                  · cases h
                · cases h
              | succ d ih =>
                intro k hv i x h
                unfold C at h
                split at h
                · split at h
                  · obtain rfl := Option.some.inj h; simp
                  · cases h
                · rename_i hk0
                  have nx : ∀ y, H (wsOf n l) W d k hv (i + 1) = some y → y.length ≤ k := fun y hy => ih k hv (i + 1) y (by unfold C; rw [if_neg hk0]; exact hy)
                  rw [H_succ] at h
                  split at h
                  · split at h
                    · exact nx x h
                    · cases hf : C (wsOf n l) W d (k - 1) (hv ||| wAt (wsOf n l) i) (i + 1) with
                      | none => rw [hf] at h; exact nx x h
                      | some y =>
                        rw [hf] at h
                        obtain rfl := Option.some.inj h
                        have := ih _ _ _ _ hf
                        simp
                        omega
                  · cases h
            have := this _ _ _ _ _ hf
            omega
          show (if (ansI (some x)).2 = true then _ else _) = _
          rw [if_pos (by simp [ansI]), if_pos (by simp [ansI]; omega)]
          rfl
    · rw [if_neg (show ¬ (i : Int) ≤ (l.length : Int) - (k : Int) by omega), if_neg hkd]
      rfl

theorem choose_f {n W : Nat} (hn : n ≤ 5) {l : List S28} (hl : l = primesL n W) (K k : Nat) (hk2 : k ≤ l.length) (hK : 2 * l.length + 41 ≤ K) :
    impl_choose.f K (wsI n l) (W : Int) 0 0 (k : Int) = some (ansI (C (wsOf n l) W l.length k 0 0)) := by
  obtain ⟨K, rfl⟩ : ∃ q, K = q + 1 := ⟨K - 1, by omega⟩
  simp only [impl_choose.f]
  unfold C
  by_cases h1 : k = 0
  · rw [if_pos (by omega), if_pos h1]
    by_cases h2 : 0 = W
    · rw [if_pos h2, show ((0 : Int) == (W : Int)) = true from by rw [beq_iff_eq]; omega]
      rfl
    · rw [if_neg h2, show ((0 : Int) == (W : Int)) = false from by rw [beq_eq_false_iff_ne]; omega]
      rfl
  · rw [if_neg (by omega), if_neg h1]
    exact choose_l0 hn hl l.length K k 0 0 (by omega) (by decide) (by omega) hk2 (by omega)

/-! ### eight terms are enough -/
theorem im_cover2 (n W : Nat) : ∀ (m v : Nat), m < 2 ^ n → v &&& m = v → im n W m v = true → ∃ t ∈ primesL n W, ∀ y, y &&& m = v → hold t y = true := by
  intro m
  induction m using Nat.strongRecOn with
  | ind m ih =>
    intro v hm hv hi
    by_cases hp : prB n W m v = true
    · exact ⟨⟨(m : Int), (v : Int)⟩, (primesL_mem n W _).mpr ⟨m, v, hm, hv, hp, rfl⟩, fun y hy => decide_eq_true (by simpa using hy)⟩
    · have hnd : ¬ noDrop n W m v 0 n = true := by
        intro q
        apply hp
        unfold prB
        rw [hi, q]
        rfl
      rw [noDrop_iff] at hnd
      have : ∃ j, j < n ∧ m.testBit j = true ∧ im n W (m ^^^ (m &&& 2 ^ j)) (v ^^^ (v &&& 2 ^ j)) = true := by
        apply Classical.byContradiction
        intro hno
        apply hnd
        intro j _ hj hb
        cases hq : im n W (m ^^^ (m &&& 2 ^ j)) (v ^^^ (v &&& 2 ^ j))
        · rfl
        · exact absurd ⟨j, by omega, hb, hq⟩ hno
      obtain ⟨j, hj, hb, hq⟩ := this
      have hlt := drop_lt hb
      obtain ⟨t, ht, hh⟩ := ih _ hlt _ (by omega) (drop_sub hv) hq
      exact ⟨t, ht, fun y hy => hh y (drop_hold hy)⟩

theorem pair_all : ∀ (n : Fin 5) (j : Fin 8), (2 * j.val + 1 < 2 ^ n.val → (2 ^ n.val - 2 < 2 ^ n.val ∧ (2 * j.val) &&& (2 ^ n.val - 2) = 2 * j.val ∧ (2 * j.val + 1) &&& (2 ^ n.val - 2) = 2 * j.val)) := by decide +kernel
theorem pair_back : ∀ (n : Fin 5) (j : Fin 8) (y : Fin 16), 2 * j.val + 1 < 2 ^ n.val → y.val < 2 ^ n.val → y.val &&& (2 ^ n.val - 2) = 2 * j.val → y.val = 2 * j.val ∨ y.val = 2 * j.val + 1 := by decide +kernel

def ptIn (n W j x : Nat) : Prop := x < 2 ^ n ∧ W.testBit x = true ∧ x / 2 = j

theorem pair_prime {n W : Nat} (hn : n ≤ 4) {j : Nat} (hj : j < 8) : ∃ t, (∃ x, ptIn n W j x) → (t ∈ primesL n W ∧ ∀ x, ptIn n W j x → hold t x = true) := by
  by_cases h : ∃ x, ptIn n W j x
  · have h16 : 2 ^ n ≤ 2 ^ 4 := Nat.pow_le_pow_right (by decide) hn
    by_cases hb : ptIn n W j (2 * j) ∧ ptIn n W j (2 * j + 1)
    · obtain ⟨⟨b1, b2, _⟩, ⟨b3, b4, _⟩⟩ := hb
      have ha := pair_all ⟨n, by omega⟩ ⟨j, hj⟩ b3
      simp only at ha
      obtain ⟨t, ht, hh⟩ := im_cover2 n W (2 ^ n - 2) (2 * j) ha.1 ha.2.1 (by
        rw [im_iff]
        intro y hy he
        rcases pair_back ⟨n, by omega⟩ ⟨j, hj⟩ ⟨y, by omega⟩ b3 hy he with e | e
        · simp only at e; rw [e]; exact b2
        · simp only at e; rw [e]; exact b4)
      refine ⟨t, fun _ => ⟨ht, fun x hx => hh x ?_⟩⟩
      have : x = 2 * j ∨ x = 2 * j + 1 := by have := hx.2.2; omega
      rcases this with e | e
      · rw [e]; exact ha.2.1
      · rw [e]; exact ha.2.2
    · obtain ⟨x, hx⟩ := h
      obtain ⟨t, ht, hh⟩ := Go.Proofs.Ytgkmgiojbiikgaa.Prm.cover hx.1 hx.2.1
      refine ⟨t, fun _ => ⟨ht, fun y hy => ?_⟩⟩
      have : y = x := by
        apply Classical.byContradiction
        intro hne
        apply hb
        have h1 := hx.2.2
        have h2 := hy.2.2
        have : (x = 2 * j ∧ y = 2 * j + 1) ∨ (x = 2 * j + 1 ∧ y = 2 * j) := by omega
        rcases this with ⟨e1, e2⟩ | ⟨e1, e2⟩
        · rw [e1] at hx; rw [e2] at hy; exact ⟨hx, hy⟩
        · rw [e1] at hx; rw [e2] at hy; exact ⟨hy, hx⟩
      rw [this]
      exact hh
  · exact ⟨⟨0, 0⟩, fun q => absurd q h⟩

theorem pairwise_filter_range (p : Nat → Bool) (d i : Nat) : ((List.range' i d).filter p).Pairwise (· ≠ ·) := by
  apply List.Pairwise.filter
  exact List.Pairwise.imp (fun h => Nat.ne_of_lt h) (List.pairwise_lt_range' (s := i) (n := d))

theorem eight {n W : Nat} (hn : n ≤ 4) (hW : W < 2 ^ 2 ^ n) {l : List S28} (hl : l = primesL n W) : ∃ x, Inc l.length 0 x ∧ x.length ≤ 8 ∧ Cov (wsOf n l) W x := by
  have key : ∀ j, j < 8 → ∃ a : Nat, (∃ x, ptIn n W j x) → (a < l.length ∧ ∀ x, ptIn n W j x → hold (rd_T28 l (a : Int)) x = true) := by
    intro j hj
    obtain ⟨t, ht⟩ := pair_prime (W := W) hn hj
    by_cases h : ∃ x, ptIn n W j x
    · obtain ⟨h1, h2⟩ := ht h
      rw [← hl] at h1
      obtain ⟨a, ha, rfl⟩ := List.mem_iff_getElem.mp h1
      exact ⟨a, fun _ => ⟨ha, fun x hx => by rw [rd_at ha]; exact h2 x hx⟩⟩
    · exact ⟨0, fun q => absurd q h⟩
  obtain ⟨c, hc⟩ : ∃ c : Nat → Nat, ∀ j, j < 8 → (∃ x, ptIn n W j x) → (c j < l.length ∧ ∀ x, ptIn n W j x → hold (rd_T28 l (c j : Int)) x = true) := by
    refine ⟨fun j => if h : j < 8 then (key j h).choose else 0, fun j hj => ?_⟩
    simp only [dif_pos hj]
    exact (key j hj).choose_spec
  refine ⟨(List.range' 0 l.length).filter (fun i => ((List.range 8).map c).contains i), ?_, ?_, ?_⟩
  · have := inc_filter (fun i => ((List.range 8).map c).contains i) l.length 0
    rwa [Nat.zero_add] at this
  · have := nodup_len _ ((List.range 8).map c) (pairwise_filter_range (fun i => ((List.range 8).map c).contains i) l.length 0) (fun x hx => by
      have := (List.mem_filter.mp hx).2
      simpa using this)
    simpa using this
  · intro b hb
    have hbn : b < 2 ^ n := by
      rcases Nat.lt_or_ge b (2 ^ n) with h | h
      · exact h
      · rw [Nat.testBit_lt_two_pow (Nat.lt_of_lt_of_le hW (Nat.pow_le_pow_right (by decide) h))] at hb
        cases hb
    have h16 : 2 ^ n ≤ 2 ^ 4 := Nat.pow_le_pow_right (by decide) hn
    have hj : b / 2 < 8 := by omega
    have hp : ptIn n W (b / 2) b := ⟨hbn, hb, rfl⟩
    obtain ⟨h1, h2⟩ := hc (b / 2) hj ⟨b, hp⟩
    refine ⟨c (b / 2), ?_, ?_⟩
    · rw [List.mem_filter]
      refine ⟨by rw [List.mem_range'_1]; omega, ?_⟩
      rw [List.contains_iff_mem]
      exact List.mem_map.mpr ⟨b / 2, List.mem_range.mpr hj, rfl⟩
    · rw [ws_at h1, testBit_wordOf, h2 b hp]
      simp [hbn]

end Go.Proofs.Ytgkmgiojbiikgaa.Msm
