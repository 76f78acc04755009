/- The reference's least word and count of symmetries: both over the words that the program visits. Conditions: the bounds that stand in each. -/
import Derived.Test.YtijpcemcijaeeaaImg
import Derived.Test.YtijpcemcijaeeaaGca
import Derived.Test.YtijpcemcijaeeaaG2
import Derived.Test.YtijpcemcijaeeaaGca
import Derived.Test.YtijpcemcijaeeaaPb4
import Derived.Test.YtijpcemcijaeeaaPc0
import Derived.Test.YtijpcemcijaeeaaPy0
import Derived.Test.YtijpcemcijaeeaaPy1
import Derived.Test.YtijpcemcijaeeaaPz0
namespace Go.Proofs.Ytijpcemcijaeeaa.Tab
set_option linter.unusedVariables false
set_option linter.unusedSimpArgs false
open Go Go.RowKit Go.Proofs.Ytijpcemcijaeeaa.P Go.Proofs.Ytijpcemcijaeeaa.Bits Go.Proofs.YtijpcemcijaeeaaW.PrintWords Go.Proofs.YtijpcemcijaeeaaW.PrintLast Go.Proofs.YtijpcemcijaeeaaW.PrintMore

theorem mn_nat (a b : Nat) : mn (a : Int) (b : Int) = ((min a b : Nat) : Int) := by
  unfold mn
  split <;> omega

/-- Best and count over a list of words. -/
def bestL (v : Nat) (l : List Nat) : Nat := l.foldl min v
def cntL (v : Nat) (l : List Nat) : Nat := l.count v
theorem bestL_two (v : Nat) (l : List Nat) (a b : Nat) : bestL v (l ++ [a] ++ [b]) = min (bestL v l) (min a b) := by
  unfold bestL
  simp only [List.foldl_append, List.foldl_cons, List.foldl_nil]
  omega
theorem cntL_two (v : Nat) (l : List Nat) (a b : Nat) : cntL v (l ++ [a] ++ [b]) = cntL v l + (if a = v then 1 else 0) + (if b = v then 1 else 0) := by
  unfold cntL
  simp only [List.count_append, List.count_cons, List.count_nil, beq_iff_eq]
  omega
theorem cntL_le (v : Nat) (l : List Nat) : cntL v l ≤ l.length := List.count_le_length

theorem full_nat {n : Nat} (hn : n ≤ 4) : spec_l2Full.f (n : Int) = some ((2 ^ 2 ^ n : Nat) - 1 : Int) := by
  unfold spec_l2Full.f
  rw [if_pos (by omega), if_pos (by omega), full_at (by omega) (by omega), lim_nat hn]

theorem least_inner (n v : Nat) (hn : n ≤ 4) (hv : v < 2 ^ 2 ^ n) (ps : List (List Int)) (g i : Nat) (hg : g < 2 ^ 32) (acc : List Nat) (ha : acc.length ≤ 10000) : ∀ (d s K : Nat), s + d = 2 ^ n → 40 ≤ K →
    spec_l4Least.l1 (K + d + 1) (bestL v (acc ++ vis (shF n) (ntF n) g s)) (cntL v (acc ++ vis (shF n) (ntF n) g s)) ps (i : Int) (s : Int) (n : Int) (v : Int) (n : Int) (g : Int) =
      spec_l4Least.l0 K (bestL v (acc ++ vis (shF n) (ntF n) g (2 ^ n))) (cntL v (acc ++ vis (shF n) (ntF n) g (2 ^ n))) ps (wrap64 ((i : Int) + 1)) (n : Int) (v : Int) := by
  have hz := sz4 hn
  have hl := lim4 hn
  intro d
  induction d with
  | zero =>
    intro s K hs hK
    obtain rfl : s = 2 ^ n := by omega
    simp only [Nat.add_zero, spec_l4Least.l1]
    rw [if_pos (by omega), shl_two_nat (by omega), if_neg (by omega)]
  | succ d ih =>
    intro s K hs hK
    have hc := cntL_le v (acc ++ vis (shF n) (ntF n) g s)
    rw [List.length_append, vis_len] at hc
    have hsh : spec_l3Shift.f (K + d + 1) (n : Int) (g : Int) (s : Int) = some ((n : Int), (shF n g s : Int)) := by
      have := shift_spec (n := (n : Int)) (w := (g : Int)) (s := (s : Int)) (by omega) (by omega) (by omega) (by omega) (by omega) (by rw [two_at_nat hn]; omega) (k := K + d + 1) (by omega)
      rw [this]
      rfl
    have hlt := shF_lt n g s
    have e := ih (s + 1) K (by omega) hK
    rw [vis_succ, ← List.append_assoc, ← List.append_assoc, bestL_two, cntL_two] at e
    rw [show K + (d + 1) + 1 = (K + d + 1) + 1 by omega, spec_l4Least.l1, if_pos (by omega), shl_two_nat (by omega), if_pos (by omega), hsh, full_nat hn]
    simp only [Option.bind_some]
    generalize shF n g s = h at hlt e
    have hw : wrap64 (((2 ^ 2 ^ n : Nat) : Int) - 1 - (h : Int)) = ((ntF n h : Nat) : Int) := by
      unfold ntF
      rw [w64 (by omega) (by omega)]
      omega
    rw [hw, mn_nat, mn_nat]
    rw [← e]
    generalize bestL v (acc ++ vis (shF n) (ntF n) g s) = b
    generalize cntL v (acc ++ vis (shF n) (ntF n) g s) = c at hc
    generalize ntF n h = t
    rw [w64 (x := (s : Int) + 1) (by omega) (by omega)]
    by_cases h1 : h = v
    · subst h1
      rw [if_pos rfl, if_pos rfl, w64 (x := (c : Int) + 1) (by omega) (by omega)]
      by_cases h2 : t = h
      · subst h2
        rw [if_pos rfl, if_pos rfl, w64 (by omega) (by omega)]
        push_cast
        rfl
      · rw [if_neg (by omega), if_neg h2]
        push_cast
        rfl
    · rw [if_neg (by omega), if_neg h1]
      by_cases h2 : t = v
      · subst h2
        rw [if_pos rfl, if_pos rfl, w64 (by omega) (by omega)]
        push_cast
        rfl
      · rw [if_neg (by omega), if_neg h2]
        push_cast
        rfl

theorem least_outer (n v : Nat) (hn : n ≤ 4) (hv : v < 2 ^ 2 ^ n) : ∀ (d i K : Nat), i + d = (ext n n []).length → 500 + d * 20 ≤ K →
    spec_l4Least.l0 K (bestL v (imgs (permF n v) (shF n) (ntF n) (2 ^ n) ((ext n n []).take i))) (cntL v (imgs (permF n v) (shF n) (ntF n) (2 ^ n) ((ext n n []).take i))) (ext n n []) (i : Int) (n : Int) (v : Int) = some ((bestL v (words n v) : Int), (cntL v (words n v) : Int)) := by
  have hz := sz4 hn
  have hl := lim4 hn
  have hL := (ext_rows n hn).1
  intro d
  induction d with
  | zero =>
    intro i K hi hK
    obtain ⟨K, rfl⟩ : ∃ q, K = q + 1 := ⟨K - 1, by omega⟩
    simp only [spec_l4Least.l0]
    rw [if_neg (by omega)]
    obtain rfl : i = (ext n n []).length := by omega
    rw [List.take_length]
    rfl
  | succ d ih =>
    intro i K hi hK
    obtain ⟨K, rfl⟩ : ∃ q, K = q + 2 ^ n + 1 + 1 := ⟨K - 2 ^ n - 2, by omega⟩
    have hx : rd_L2 (ext n n []) (i : Int) = (ext n n []).getD i [] := by
      unfold rd_L2
      rw [Int.toNat_natCast]
    have hm : (ext n n []).getD i [] ∈ ext n n [] := by
      rw [List.getD_eq_getElem?_getD, List.getElem?_eq_getElem (by omega)]
      exact List.getElem_mem _
    obtain ⟨p1, p2, -⟩ := perm_both n v hn (by omega) _ hm (K + 2 ^ n + 1) (by omega)
    rw [spec_l4Least.l0, if_pos (by omega), if_pos (by omega), hx, p2]
    simp only [Option.bind_some]
    have hlen : (imgs (permF n v) (shF n) (ntF n) (2 ^ n) ((ext n n []).take i)).length ≤ 10000 := by
      rw [imgs_len, List.length_take]
      have : min i (ext n n []).length * (2 * 2 ^ n) ≤ 24 * (2 * 16) := Nat.mul_le_mul (by omega) (by omega)
      omega
    have e := least_inner n v hn hv (ext n n []) (permF n v ((ext n n []).getD i [])) i p1 _ hlen (2 ^ n) 0 K (by omega) (by omega)
    simp only [show ∀ g, vis (shF n) (ntF n) g 0 = [] from fun _ => rfl, List.append_nil] at e
    rw [show ((0 : Nat) : Int) = 0 from rfl] at e
    rw [e, ← imgs_take _ _ _ _ _ i (by omega), w64 (by omega) (by omega)]
    exact ih (i + 1) K (by omega) (by omega)

theorem perms_spec : ∀ n : Nat, n ≤ 4 → spec_l4Perms.f 60 (n : Int) [] = some (ext n n []) := by decide +kernel
theorem perms_spec_more (n : Nat) (hn : n ≤ 4) : ∀ j, spec_l4Perms.f (60 + j) (n : Int) [] = some (ext n n [])
  | 0 => perms_spec n hn
  | j + 1 => spec_l4Perms.mono _ _ _ _ (perms_spec_more n hn j)

theorem least_is (n v : Nat) (hn : n ≤ 4) (hv : v < 2 ^ 2 ^ n) (K : Nat) (hK : 1000 ≤ K) : spec_l4Least.f K (n : Int) (v : Int) = some ((bestL v (words n v) : Int), (cntL v (words n v) : Int)) := by
  have hL := (ext_rows n hn).1
  unfold spec_l4Least.f
  obtain ⟨j, rfl⟩ : ∃ j, K = 60 + j := ⟨K - 60, by omega⟩
  rw [perms_spec_more n hn j]
  exact least_outer n v hn hv (ext n n []).length 0 (60 + j) (by omega) (by omega)

theorem isSmall_is (n w : Int) : impl_isSmall.f n w 4 = some (isT n w && decide (n ≤ 4)) := by
  unfold impl_isSmall.f
  rw [impl_IsTable_is]
  cases isT n w <;> rfl

/-- The canonical table, as both tell it. -/
def canT (n w : Int) : Int × Int × Bool := if isT n w = true ∧ n ≤ 4 then (n, (bestL w.toNat (words n.toNat w.toNat) : Int), true) else (0, 0, false)
theorem canon_spec (n w : Int) (K : Nat) (hK : 1000 ≤ K) : spec_CanonicalTable.f K n w = some (canT n w) := by
  unfold spec_CanonicalTable.f canT
  rw [spec_IsTable_is]
  simp only [Option.bind_some]
  cases h : isT n w
  · rw [if_neg (by decide), if_neg (by simp)]
  · rw [if_pos rfl]
    obtain ⟨h0, h5, hw, hl⟩ := isT_yes h
    by_cases h4 : n > 4
    · rw [if_pos h4, if_neg (by omega)]
    · rw [if_neg h4, if_pos ⟨rfl, by omega⟩]
      obtain ⟨n, rfl⟩ := Int.eq_ofNat_of_zero_le h0
      obtain ⟨w, rfl⟩ := Int.eq_ofNat_of_zero_le hw
      rw [lim_nat (by omega)] at hl
      rw [least_is n w (by omega) (by omega) K hK]
      rfl
theorem canon_impl (n w : Int) : impl_CanonicalTable.f n w = some (canT n w) := by
  unfold impl_CanonicalTable.f canT
  rw [isSmall_is]
  simp only [Option.bind_some]
  cases h : isT n w
  · rw [if_neg (by simp), if_neg (by simp)]
  · obtain ⟨h0, h5, hw, hl⟩ := isT_yes h
    by_cases h4 : n > 4
    · rw [if_neg (by simp; omega), if_neg (by omega)]
    · rw [if_pos (by simp; omega), if_pos ⟨rfl, by omega⟩]
      obtain ⟨n, rfl⟩ := Int.eq_ofNat_of_zero_le h0
      obtain ⟨w, rfl⟩ := Int.eq_ofNat_of_zero_le hw
      rw [lim_nat (by omega)] at hl
      unfold impl_Table_canonical.f
      rw [if_pos ⟨h0, by omega, hw, by rw [Int.toNat_natCast]; exact hl⟩]
      rfl
end Go.Proofs.Ytijpcemcijaeeaa.Tab
