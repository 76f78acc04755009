/- The law FnExactParseTerm: its plain function answers true for all its arguments. No conditions but those of the statement. -/
import Derived.Test.YtgkmgiojbiikgaaFmt
import Derived.Test.YtgkmgiojbiikgaaPLFnExactParseTerm
import Derived.Test.YtgkmgiojbiikgaaG1t
import Derived.Test.YtgkmgiojbiikgaaPLFnExactParseTerm
import Derived.Test.YtgkmgiojbiikgaaPb0
import Derived.Test.YtgkmgiojbiikgaaPz0
import Derived.Test.YtgkmgiojbiikgaaPz2
import Derived.Test.YtgkmgiojbiikgaaPz4
import Derived.Test.YtgkmgiojbiikgaaPz5
import Derived.Test.YtgkmgiojbiikgaaPz6
namespace Go.Proofs.Ytgkmgiojbiikgaa.Pure
set_option linter.unusedVariables false
set_option linter.unusedSimpArgs false
open Go Go.RowKit Go.Proofs.Ytgkmgiojbiikgaa.P Go.Proofs.Ytgkmgiojbiikgaa.Bits Go.Proofs.Ytgkmgiojbiikgaa.Tab Go.Proofs.Ytgkmgiojbiikgaa.Shl Go.Proofs.Ytgkmgiojbiikgaa.Fmt Go.Proofs.YtgkmgiojbiikgaaW.PrintWords Go.Proofs.YtgkmgiojbiikgaaW.PrintLast Go.Proofs.YtgkmgiojbiikgaaW.PrintMore

def okC (c : Int) : Prop := c = 33 ∨ (97 ≤ c ∧ c < 102)
def okB (s : ByteArray) : Prop := ∀ b ∈ s.data.toList, okC (b.toNat : Int)

theorem okB_nums (xs : List Int) (h : ∀ x ∈ xs, okC x) : okB (strOfNums xs) := by
  intro b hb
  rw [strOfNums_data, List.mem_map] at hb
  obtain ⟨x, hx, rfl⟩ := hb
  have := h x hx
  unfold okC at *
  have e : (UInt8.ofNat x.toNat).toNat = x.toNat := by
    rw [UInt8.toNat_ofNat']
    exact Nat.mod_eq_of_lt (by omega)
  rw [e]
  omega

theorem bt_ok (s : ByteArray) (h : okB s) (j : Nat) (hj : j < s.size) : okC (bt s (j : Int)) := by
  have hj' : (j : Int).toNat < s.size := by rw [Int.toNat_natCast]; exact hj
  unfold bt
  rw [dif_pos hj']
  refine h _ ?_
  have : s.data[(j : Int).toNat]'hj' ∈ s.data := Array.getElem_mem _
  exact Array.mem_toList_iff.mpr this

theorem fmt_good : ∀ (k : Nat) (xs : List Int) (n i m v : Int) (r : ByteArray), (∀ x ∈ xs, okC x) → 0 ≤ i → n ≤ 5 → impl_FormatTerm.l0 k xs n i m v = some r → r = (⟨#[49]⟩ : ByteArray) ∨ okB r := by
  intro k
  induction k with
  | zero => intro xs n i m v r _ _ _ h; simp [impl_FormatTerm.l0] at h
  | succ k ih =>
    intro xs n i m v r hx hi hn h
    simp only [impl_FormatTerm.l0] at h
    by_cases c1 : i < n
    · rw [if_pos c1, if_pos hi, w64 (by omega) (by omega)] at h
      have hl : okC (97 + i) := Or.inr ⟨by omega, by omega⟩
      have hb : okC 33 := Or.inl rfl
      have e : (97 + i) % 256 = 97 + i := by omega
      rw [e] at h
      split at h
      · exact ih xs n (i + 1) m v r hx (by omega) hn h
      · split at h
        · split at h
          · simp only [Option.bind_some] at h
            split at h
            · refine ih _ n (i + 1) m v r ?_ (by omega) hn h
              intro x hm
              simp only [List.mem_append, List.mem_singleton] at hm
              rcases hm with (hm | rfl) | rfl
              · exact hx x hm
              · exact hb
              · exact hl
            · exact absurd h (by simp)
          · exact absurd h (by simp)
        · split at h
          · refine ih _ n (i + 1) m v r ?_ (by omega) hn h
            intro x hm
            simp only [List.mem_append, List.mem_singleton] at hm
            rcases hm with hm | rfl
            · exact hx x hm
            · exact hl
          · exact absurd h (by simp)
    · rw [if_neg c1] at h
      split at h
      · exact Or.inl (Option.some.inj h).symm
      · rw [← Option.some.inj h]
        exact Or.inr (okB_nums xs hx)

theorem format_any (n m v : Int) (hv1 : v ≤ 9223372036854775807) : ∃ r, (∀ k, 40 ≤ k → spec_FormatTerm.f k n m v = some r ∧ impl_FormatTerm.f k n m v = some r) ∧ (isM n m v = false → r = (⟨#[]⟩ : ByteArray)) ∧ (r = (⟨#[49]⟩ : ByteArray) ∨ okB r) := by
  obtain ⟨r, r1, r2⟩ := format_same n m v hv1
  have hf := r2
  unfold impl_FormatTerm.f at hf
  simp only [impl_IsTerm_is n m v hv1, Option.bind_some] at hf
  refine ⟨r, ?_, ?_, ?_⟩
  · intro k hk
    obtain ⟨d, rfl⟩ : ∃ d, k = 40 + d := ⟨k - 40, by omega⟩
    clear hk
    induction d with
    | zero => exact ⟨r1, r2⟩
    | succ d ih => exact ⟨spec_FormatTerm.mono _ _ _ _ _ ih.1, impl_FormatTerm.mono _ _ _ _ _ ih.2⟩
  · intro h
    rw [h] at hf
    exact (Option.some.inj hf).symm
  · cases h : isM n m v
    · rw [h] at hf
      refine Or.inr ?_
      rw [← Option.some.inj hf]
      intro b hb
      exact absurd hb (by simp)
    · rw [h] at hf
      obtain ⟨n0, n5, -⟩ := of_decide_eq_true h
      exact fmt_good 40 [] n 0 m v r (by simp) (by omega) n5 hf

def dead (n : Int) (m : Nat) (s : ByteArray) : Prop := (∃ j, j < s.size ∧ ¬ okC (bt s (j : Int))) ∨ ¬ (0 ≤ n ∧ n ≤ 5) ∨ two n ≤ (m : Int)

theorem dead_end {n : Int} {m v : Nat} {s : ByteArray} (h1 : s.toList ≠ [49]) (h0 : s.toList ≠ []) (hv : v < 32) (h : dead n m s) {k : Nat} (hk : 40 ≤ k) :
    ((impl_FormatTerm.f k n (m : Int) (v : Int)).bind fun t => (if t.toList = s.toList then some ((m : Int), (v : Int), true) else some (0, 0, false))) = some (0, 0, false) := by
  obtain ⟨r, a, b, c⟩ := format_any n m v (by omega)
  rw [(a k hk).2]
  simp only [Option.bind_some]
  rw [if_neg]
  intro e
  have hnil : isM n m v = false → False := by
    intro q
    rw [b q] at e
    rw [ByteArray.toList_eq] at e
    exact h0 e.symm
  rcases h with ⟨j, hj, hb⟩ | h | h
  · rcases c with rfl | c
    · rw [ByteArray.toList_eq] at e
      exact h1 e.symm
    · refine hb (bt_ok s ?_ j hj)
      rw [ByteArray.toList_eq, ByteArray.toList_eq] at e
      unfold okB
      rw [← e]
      exact c
  · exact hnil (decide_eq_false (fun q => h ⟨q.1, q.2.1⟩))
  · exact hnil (decide_eq_false (fun q => by have := q.2.2.2.1; omega))

theorem pow32 {c : Int} (h : 97 ≤ c ∧ c < 102) : 2 ^ (c - 97).toNat < 2 ^ 5 := Nat.pow_lt_pow_right (by decide) (by omega)

theorem or_le (a b : Nat) : a ≤ a ||| b := Nat.left_le_or

theorem letter_step {c : Int} (h : 97 ≤ c ∧ c < 102) {m : Nat} (hm : m < 2 ^ 5) : bits .or .i64 (m : Int) (shl .i64 1 ((c - 97) % 256)) = ((m ||| 2 ^ (c - 97).toNat : Nat) : Int) ∧ m ||| 2 ^ (c - 97).toNat < 2 ^ 5 := by
  have e : (c - 97) % 256 = (((c - 97).toNat : Nat) : Int) := by omega
  rw [e]
  exact ⟨Shl.or_pow (by omega) (by omega), Nat.or_lt_two_pow hm (pow32 h)⟩

theorem letter_zero {c : Int} (h : 97 ≤ c ∧ c < 102) {v : Nat} (hv : v < 2 ^ 5) : bits .or .i64 (v : Int) (shl .i64 0 ((c - 97) % 256)) = ((v : Nat) : Int) := by
  have e : (c - 97) % 256 = (((c - 97).toNat : Nat) : Int) := by omega
  rw [e, shl_zero_nat]
  have := or_nat v 0 (by omega) (by decide)
  rw [Nat.or_zero] at this
  exact this

theorem impl_dead {n : Int} {s : ByteArray} (h1 : s.toList ≠ [49]) (h0 : s.toList ≠ []) (hs : s.size ≤ 1048576) : ∀ (d i k m v : Nat) (x7 : Int), i + d = s.size → m < 2 ^ 5 → v < 2 ^ 5 → (x7 = 0 ∨ x7 = 1) → d + 41 ≤ k → dead n m s →
    impl_ParseTerm.l0 k n s x7 (s.size : Int) (i : Int) (m : Int) (v : Int) = some (0, 0, false) := by
  intro d
  induction d with
  | zero =>
    intro i k m v x7 hi hm hv h7 hk h
    obtain ⟨k, rfl⟩ : ∃ q, k = q + 1 := ⟨k - 1, by omega⟩
    simp only [impl_ParseTerm.l0]
    rw [if_neg (by omega), if_neg h0]
    exact dead_end h1 h0 (by omega) h (by omega)
  | succ d ih =>
    intro i k m v x7 hi hm hv h7 hk h
    obtain ⟨k, rfl⟩ : ∃ q, k = q + 1 := ⟨k - 1, by omega⟩
    simp only [impl_ParseTerm.l0, impl_isLetter.f]
    rw [if_pos (by omega), if_pos (by omega), if_pos (by omega), w64 (by omega) (by omega)]
    by_cases c33 : bt s (i : Int) = 33
    · rw [if_pos c33]
      exact ih (i + 1) k m v 0 (by omega) hm hv (Or.inl rfl) (by omega) h
    · rw [if_neg c33]
      by_cases cl : 97 ≤ bt s (i : Int) ∧ bt s (i : Int) < 102
      · rw [if_pos cl.1, decide_eq_true cl.2]
        simp only [Option.bind_some, if_true]
        obtain ⟨e1, e2⟩ := letter_step cl hm
        obtain ⟨e3, e4⟩ := letter_step cl hv
        have hd : dead n (m ||| 2 ^ (bt s (i : Int) - 97).toNat) s := by
          rcases h with h | h | h
          · exact Or.inl h
          · exact Or.inr (Or.inl h)
          · refine Or.inr (Or.inr ?_)
            have := or_le m (2 ^ (bt s (i : Int) - 97).toNat)
            omega
        rw [e1]
        rcases h7 with rfl | rfl
        · rw [letter_zero cl hv]
          exact ih (i + 1) k _ v 1 (by omega) e2 hv (Or.inr rfl) (by omega) hd
        · rw [e3]
          exact ih (i + 1) k _ _ 1 (by omega) e2 e4 (Or.inr rfl) (by omega) hd
      · have eb : (if bt s (i : Int) ≥ 97 then some (decide (bt s (i : Int) < 102)) else some false) = some false := by
          by_cases q : bt s (i : Int) ≥ 97
          · rw [if_pos q, decide_eq_false (fun q2 => cl ⟨q, q2⟩)]
          · rw [if_neg q]
        rw [eb]
        simp only [Option.bind_some, Bool.false_eq_true, if_false]
        exact ih (i + 1) k m v x7 (by omega) hm hv h7 (by omega) h

theorem parse_loop {n : Int} {s : ByteArray} (hw : -9223372036854775808 ≤ n ∧ n ≤ 9223372036854775807) (h1 : s.toList ≠ [49]) (h0 : s.toList ≠ []) (hs : s.size ≤ 1048576) : ∀ (d i k q m v : Nat) (neg : Bool), i + d = s.size → m < 2 ^ 5 → v < 2 ^ 5 → 3 * d + 50 ≤ k → d + 41 ≤ q →
    ∃ r, spec_ParseTerm.l0 k n s neg (i : Int) (m : Int) (v : Int) = some r ∧ impl_ParseTerm.l0 q n s (if neg then 0 else 1) (s.size : Int) (i : Int) (m : Int) (v : Int) = some r := by
  have hne : (s.toList != ([49] : List UInt8)) = true := bne_iff_ne.mpr h1
  intro d
  induction d with
  | zero =>
    intro i k q m v neg hi hm hv hk hq
    obtain ⟨k, rfl⟩ : ∃ q, k = q + 1 + 1 := ⟨k - 2, by omega⟩
    obtain ⟨q, rfl⟩ : ∃ z, q = z + 1 := ⟨q - 1, by omega⟩
    simp only [spec_ParseTerm.l0, spec_ParseTerm.j1, impl_ParseTerm.l0]
    have e0 : ¬ (i : Int) < (s.size : Int) := by omega
    simp only [if_neg e0, if_neg h0, Bool.false_eq_true, if_false]
    obtain ⟨r, a, -, -⟩ := format_any n m v (by omega)
    rw [(a k (by omega)).1, (a q (by omega)).2]
    simp only [Option.bind_some]
    split
    · exact ⟨_, rfl, rfl⟩
    · exact ⟨_, rfl, rfl⟩
  | succ d ih =>
    intro i k q m v neg hi hm hv hk hq
    obtain ⟨k, rfl⟩ : ∃ q, k = q + 1 + 1 + 1 := ⟨k - 3, by omega⟩
    have h7 : (if neg = true then (0 : Int) else 1) = 0 ∨ (if neg = true then (0 : Int) else 1) = 1 := by cases neg <;> simp
    have hd := impl_dead (n := n) h1 h0 hs (d + 1) i q m v (if neg = true then 0 else 1) hi hm hv h7 (by omega)
    obtain ⟨q, rfl⟩ : ∃ z, q = z + 1 := ⟨q - 1, by omega⟩
    have hbt := bt_range s (i : Int)
    simp only [spec_ParseTerm.l0, spec_ParseTerm.j1, spec_ParseTerm.j2]
    rw [if_pos (show (i : Int) < (s.size : Int) by omega), hne, if_pos rfl, if_pos (show 0 ≤ (i : Int) by omega), w64 (x := (i : Int) + 1) (by omega) (by omega), w64 (x := bt s (i : Int)) (by omega) (by omega), w64 (x := bt s (i : Int) - 97) (by omega) (by omega)]
    by_cases c33 : bt s (i : Int) = 33
    · rw [if_pos c33, impl_ParseTerm.l0, if_pos (show (i : Int) < (s.size : Int) by omega), if_pos (show (i : Int) < (s.size : Int) by omega), if_pos (show 0 ≤ (i : Int) by omega), if_pos (show (i : Int) < (s.size : Int) by omega), if_pos c33, w64 (x := (i : Int) + 1) (by omega) (by omega)]
      have z := ih (i + 1) (k + 1) q m v true (by omega) hm hv (by omega) (by omega)
      rw [show ((i + 1 : Nat) : Int) = (i : Int) + 1 from by omega] at z
      simp only [spec_ParseTerm.l0, hne, if_true] at z
      exact z
    · rw [if_neg c33, if_pos (show (i : Int) < (s.size : Int) by omega), l1In_is]
      simp only [Option.bind_some]
      by_cases hn : 0 ≤ n ∧ n ≤ 5
      · rw [decide_eq_true hn]
        simp only [if_true]
        rw [w64 (x := n - 1) (by omega) (by omega), l1In_is]
        simp only [Option.bind_some]
        by_cases hc : 0 ≤ bt s (i : Int) - 97 ∧ bt s (i : Int) - 97 ≤ n - 1
        · rw [decide_eq_true hc]
          simp only [Bool.not_true, Bool.false_eq_true, if_false]
          have cl : 97 ≤ bt s (i : Int) ∧ bt s (i : Int) < 102 := by omega
          obtain ⟨e1, e2⟩ := letter_step cl hm
          obtain ⟨e3, e4⟩ := letter_step cl hv
          have em : (bt s (i : Int) - 97) % 256 = bt s (i : Int) - 97 := by omega
          rw [if_pos hc.1, impl_ParseTerm.l0, if_pos (show (i : Int) < (s.size : Int) by omega), if_pos (show 0 ≤ (i : Int) by omega), if_pos (show (i : Int) < (s.size : Int) by omega), if_neg c33, w64 (x := (i : Int) + 1) (by omega) (by omega)]
          simp only [impl_isLetter.f]
          rw [if_pos cl.1, decide_eq_true cl.2]
          simp only [Option.bind_some, if_true]
          rw [e1]
          rw [em] at e1 e3
          rw [e1]
          cases neg
          · simp only [Bool.false_eq_true, if_false]
            rw [em, e3]
            exact ih (i + 1) k q _ _ false (by omega) e2 e4 (by omega) (by omega)
          · simp only [if_true]
            rw [letter_zero cl hv]
            exact ih (i + 1) k q _ v false (by omega) e2 hv (by omega) (by omega)
        · rw [decide_eq_false hc]
          simp only [Bool.not_false, if_true]
          refine ⟨_, rfl, ?_⟩
          by_cases cl : 97 ≤ bt s (i : Int) ∧ bt s (i : Int) < 102
          · obtain ⟨e1, e2⟩ := letter_step cl hm
            obtain ⟨e3, e4⟩ := letter_step cl hv
            have hdd : dead n (m ||| 2 ^ (bt s (i : Int) - 97).toNat) s := by
              refine Or.inr (Or.inr ?_)
              have ho : 2 ^ (bt s (i : Int) - 97).toNat ≤ m ||| 2 ^ (bt s (i : Int) - 97).toNat := Nat.right_le_or
              obtain ⟨N, rfl⟩ := Int.eq_ofNat_of_zero_le hn.1
              rw [two_nat (by omega)]
              have hp : 2 ^ N ≤ 2 ^ (bt s (i : Int) - 97).toNat := Nat.pow_le_pow_right (by decide) (by omega)
              have : 2 ^ N ≤ m ||| 2 ^ (bt s (i : Int) - 97).toNat := Nat.le_trans hp ho
              exact_mod_cast this
            rw [impl_ParseTerm.l0, if_pos (show (i : Int) < (s.size : Int) by omega), if_pos (show 0 ≤ (i : Int) by omega), if_pos (show (i : Int) < (s.size : Int) by omega), if_neg c33, w64 (x := (i : Int) + 1) (by omega) (by omega)]
            simp only [impl_isLetter.f]
            rw [if_pos cl.1, decide_eq_true cl.2]
            simp only [Option.bind_some, if_true]
            rw [e1]
            cases neg
            · simp only [Bool.false_eq_true, if_false]
              rw [e3]
              exact impl_dead h1 h0 hs d (i + 1) q _ _ 1 (by omega) e2 e4 (Or.inr rfl) (by omega) hdd
            · simp only [if_true]
              rw [letter_zero cl hv]
              exact impl_dead h1 h0 hs d (i + 1) q _ v 1 (by omega) e2 hv (Or.inr rfl) (by omega) hdd
          · exact hd (Or.inl ⟨i, by omega, fun z => z.elim (fun z => c33 z) (fun z => cl z)⟩)
      · rw [decide_eq_false hn]
        simp only [Bool.false_eq_true, if_false, if_true]
        exact ⟨_, rfl, hd (Or.inr (Or.inl hn))⟩

theorem FnExactParseTerm : laws_FnExactParseTerm.Pure := by
  intro n s hn _
  have hw := bounds_i64 hn
  by_cases hs : (s.size : Int) > 1048576
  · exact ⟨0, by unfold laws_FnExactParseTerm.f; rw [if_pos hs]⟩
  · refine ⟨3 * s.size + 100, ?_⟩
    obtain ⟨r, r1, r2⟩ : ∃ r, spec_ParseTerm.f (3 * s.size + 100) n s = some r ∧ impl_ParseTerm.f (3 * s.size + 100) n s = some r := by
      unfold spec_ParseTerm.f impl_ParseTerm.f
      by_cases h1 : s.toList = [49]
      · rw [if_pos h1, if_neg (by rw [h1]; decide)]
        have hne : (s.toList != ([49] : List UInt8)) = false := by rw [h1]; rfl
        obtain ⟨k, hk⟩ : ∃ q, 3 * s.size + 100 = q + 1 + 1 := ⟨3 * s.size + 98, by omega⟩
        obtain ⟨r, a, -, -⟩ := format_any n 0 0 (by omega)
        rw [hk, (a (k + 1 + 1) (by omega)).2]
        simp only [spec_ParseTerm.l0, spec_ParseTerm.j1, hne, Option.bind_some]
        rw [ite_self, if_neg (by decide), if_neg (by rw [h1]; decide), (a k (by omega)).1]
        simp only [Option.bind_some]
        split
        · exact ⟨_, rfl, rfl⟩
        · exact ⟨_, rfl, rfl⟩
      · rw [if_neg h1]
        by_cases h0 : s.toList = []
        · have hz : s.size = 0 := by
            rw [ByteArray.toList_eq] at h0
            have := congrArg List.length h0
            simpa using this
          rw [hz]
          simp [spec_ParseTerm.l0, spec_ParseTerm.j1, impl_ParseTerm.l0, h0, hz]
        · exact parse_loop hw h1 h0 (by omega) s.size 0 (3 * s.size + 100) (3 * s.size + 100) 0 0 false (by omega) (by decide) (by decide) (by omega) (by omega)
    unfold laws_FnExactParseTerm.f laws_eqTerm.f
    rw [if_neg hs, r1, r2]
    simp

end Go.Proofs.Ytgkmgiojbiikgaa.Pure
