/- The laws' markIntSS over rows that lie apart, all of one length. No conditions but those that stand in the theorems. -/
import Derived.Test.YtijpcemcijaeeaaP0
import Derived.Test.YtijpcemcijaeeaaBits
import Derived.Lib.Hide
import Derived.Test.YtijpcemcijaeeaaPa3
import Derived.Test.YtijpcemcijaeeaaPa4
namespace Go.Proofs.Ytijpcemcijaeeaa.P
set_option linter.unusedVariables false
set_option linter.unusedSimpArgs false
open Go.RowKit Go.Proofs.Ytijpcemcijaeeaa.Bits Go.Proofs.YtijpcemcijaeeaaW.PrintWords Go.Proofs.YtijpcemcijaeeaaW.PrintLast Go.Proofs.YtijpcemcijaeeaaW.PrintMore

/-- What stands in row i, and in all of them. -/
def mk (n i : Nat) : List Int := (List.range n).map fun j => ((1 + i * n + j : Nat) : Int)
def mks (n L : Nat) : List (List Int) := (List.range L).map (mk n)
theorem mk_len (n i : Nat) : (mk n i).length = n := by simp [mk]
theorem mks_len (n L : Nat) : (mks n L).length = L := by simp [mks]

theorem markFrom (n m : Nat) (hn : n ≤ 4) (hm : m ≤ 100000) : ∀ (d i k : Nat) (x : List Int), i + d = n → x.length = n → (∀ j, j < i → x[j]? = some ((m + j : Nat) : Int)) → d < k →
    laws_markIntS.l0 k x ((m + i : Nat) : Int) (i : Int) = some (((m + n : Nat) : Int), (List.range n).map fun j => ((m + j : Nat) : Int)) := by
  intro d
  induction d with
  | zero =>
    intro i k x hi hx h hk
    obtain ⟨k, rfl⟩ : ∃ q, k = q + 1 := ⟨k - 1, by omega⟩
    simp only [laws_markIntS.l0]
    rw [if_neg (by omega)]
    obtain rfl : i = n := by omega
    congr 2
    apply List.ext_getElem?
    intro j
    rw [List.getElem?_map]
    rcases Nat.lt_or_ge j i with hj | hj
    · rw [h j hj, List.getElem?_range hj]
      rfl
    · rw [List.getElem?_eq_none (by omega), List.getElem?_eq_none (by simpa using hj)]
      rfl
  | succ d ih =>
    intro i k x hi hx h hk
    obtain ⟨k, rfl⟩ : ∃ q, k = q + 1 := ⟨k - 1, by omega⟩
    simp only [laws_markIntS.l0]
    rw [if_pos (by omega), if_pos (by omega), w64 (by omega) (by omega), w64 (by omega) (by omega), Int.toNat_natCast]
    have := ih (i + 1) k (x.set i ((m + i : Nat) : Int)) (by omega) (by rw [List.length_set, hx]) (by
      intro j hj
      rw [List.getElem?_set]
      by_cases e : i = j
      · subst e
        rw [if_pos rfl, if_pos (by omega)]
      · rw [if_neg e]
        exact h j (by omega)) (by omega)
    rw [← this]
    congr 1

theorem mark_row (n i k : Nat) (hn : n ≤ 4) (hi : i ≤ 1000) (x : List Int) (hx : x.length = n) (hk : 5 ≤ k) : laws_markIntS.f k x ((1 + i * n : Nat) : Int) = some (((1 + (i + 1) * n : Nat) : Int), mk n i) := by
  have hin : i * n ≤ 1000 * 4 := Nat.mul_le_mul hi hn
  have := markFrom n (1 + i * n) hn (by omega) n 0 k x (by omega) hx (fun j hj => absurd hj (by omega)) (by omega)
  unfold laws_markIntS.f
  rw [show ((1 + (i + 1) * n : Nat)) = 1 + i * n + n by rw [Nat.succ_mul]; omega]
  exact this

theorem heldFrom (n m : Nat) (hn : n ≤ 4) (hm : m ≤ 100000) : ∀ (d i k : Nat), i + d = n → d < k →
    laws_heldIntS.l0 k ((List.range n).map fun j => ((m + j : Nat) : Int)) ((m + i : Nat) : Int) (i : Int) = some ((m + n : Nat) : Int) := by
  intro d
  induction d with
  | zero =>
    intro i k hi hk
    obtain ⟨k, rfl⟩ : ∃ q, k = q + 1 := ⟨k - 1, by omega⟩
    simp only [laws_heldIntS.l0]
    rw [if_neg (by simp; omega)]
    obtain rfl : i = n := by omega
    rfl
  | succ d ih =>
    intro i k hi hk
    obtain ⟨k, rfl⟩ : ∃ q, k = q + 1 := ⟨k - 1, by omega⟩
    simp only [laws_heldIntS.l0]
    have hr : rd ((List.range n).map fun j => ((m + j : Nat) : Int)) (i : Int) = ((m + i : Nat) : Int) := by
      unfold rd
      rw [Int.toNat_natCast, List.getD_eq_getElem?_getD, List.getElem?_map, List.getElem?_range (by omega)]
      rfl
    rw [if_pos (by simp; omega), if_pos (by omega), if_pos hr, w64 (by omega) (by omega), w64 (by omega) (by omega)]
    exact ih (i + 1) k (by omega) (by omega)

theorem held_row (n i k : Nat) (hn : n ≤ 4) (hi : i ≤ 1000) (hk : 5 ≤ k) : laws_heldIntS.f k (mk n i) ((1 + i * n : Nat) : Int) = some ((1 + (i + 1) * n : Nat) : Int) := by
  have hin : i * n ≤ 1000 * 4 := Nat.mul_le_mul hi hn
  have := heldFrom n (1 + i * n) hn (by omega) n 0 k (by omega) (by omega)
  unfold laws_heldIntS.f
  rw [show ((1 + (i + 1) * n : Nat)) = 1 + i * n + n by rw [Nat.succ_mul]; omega]
  exact this

theorem held_rows (n L : Nat) (hn : n ≤ 4) (hL : L ≤ 1000) : ∀ (d i k : Nat), i + d = L → d + 5 < k → laws_heldIntSS.l0 k (mks n L) ((1 + i * n : Nat) : Int) (i : Int) = some ((1 + L * n : Nat) : Int) := by
  intro d
  induction d with
  | zero =>
    intro i k hi hk
    obtain ⟨k, rfl⟩ : ∃ q, k = q + 1 := ⟨k - 1, by omega⟩
    simp only [laws_heldIntSS.l0]
    rw [if_neg (by rw [mks_len]; omega)]
    obtain rfl : i = L := by omega
    rfl
  | succ d ih =>
    intro i k hi hk
    obtain ⟨k, rfl⟩ : ∃ q, k = q + 1 := ⟨k - 1, by omega⟩
    simp only [laws_heldIntSS.l0]
    have hr : rd_L2 (mks n L) (i : Int) = mk n i := by
      unfold rd_L2 mks
      rw [Int.toNat_natCast, List.getD_eq_getElem?_getD, List.getElem?_map, List.getElem?_range (by omega)]
      rfl
    rw [if_pos (by rw [mks_len]; omega), if_pos (by omega), hr, held_row n i k hn (by omega) (by omega)]
    show (if ((1 + (i + 1) * n : Nat) : Int) < 0 then some (-1) else laws_heldIntSS.l0 k (mks n L) ((1 + (i + 1) * n : Nat) : Int) (wrap64 ((i : Int) + 1))) = _
    rw [if_neg (by omega), w64 (by omega) (by omega)]
    exact ih (i + 1) k (by omega) (by omega)

theorem held_all (n L : Nat) (hn : n ≤ 4) (hL : L ≤ 1000) (k : Nat) (hk : L + 5 < k) : laws_heldIntSS.f k (mks n L) 1 = some ((1 + L * n : Nat) : Int) := by
  have := held_rows n L hn hL L 0 k (by omega) hk
  rw [Nat.zero_mul] at this
  exact this

/-- After i rows. -/
def upTo (n i : Nat) (ls : List (List Int)) : List (List Int) := mks n i ++ ls.drop i
theorem upTo_len (n i : Nat) (ls : List (List Int)) (h : i ≤ ls.length) : (upTo n i ls).length = ls.length := by
  simp [upTo, mks_len]; omega
theorem upTo_zero (n : Nat) (ls : List (List Int)) : upTo n 0 ls = ls := by simp [upTo, mks]
theorem upTo_all (n : Nat) (ls : List (List Int)) : upTo n ls.length ls = mks n ls.length := by simp [upTo]
theorem upTo_at (n i : Nat) (ls : List (List Int)) (h : i < ls.length) : (upTo n i ls).getD i [] = ls.getD i [] := by
  unfold upTo
  rw [List.getD_eq_getElem?_getD, List.getD_eq_getElem?_getD, List.getElem?_append_right (by rw [mks_len]; omega), mks_len, Nat.sub_self, List.getElem?_drop, Nat.add_zero]
theorem upTo_set (n i : Nat) (ls : List (List Int)) (h : i < ls.length) : (upTo n i ls).set i (mk n i) = upTo n (i + 1) ls := by
  apply List.ext_getElem?
  intro j
  unfold upTo
  rw [List.getElem?_set, List.length_append, mks_len, List.length_drop]
  by_cases e : i = j
  · subst e
    rw [if_pos rfl, if_pos (by omega), List.getElem?_append_left (by rw [mks_len]; omega)]
    unfold mks
    rw [List.getElem?_map, List.getElem?_range (by omega)]
    rfl
  · rw [if_neg e]
    rcases Nat.lt_or_ge j i with hj | hj
    · rw [List.getElem?_append_left (by rw [mks_len]; omega), List.getElem?_append_left (by rw [mks_len]; omega)]
      unfold mks
      rw [List.getElem?_map, List.getElem?_map, List.getElem?_range hj, List.getElem?_range (by omega)]
    · rw [List.getElem?_append_right (by rw [mks_len]; omega), List.getElem?_append_right (by rw [mks_len]; omega), mks_len, mks_len, List.getElem?_drop, List.getElem?_drop]
      congr 1
      omega

set_option maxHeartbeats 4000000 in
set_option maxRecDepth 100000 in
theorem laws_markIntSS.calls (n : Nat) (hn : n ≤ 4) (ls : List (List Int)) (hL : ls.length ≤ 1000) (hrow : ∀ x ∈ ls, x.length = n) (v : Value) (w0 w : World) (hB : Below w0.heap.size w0 w) (hS : Kd.S (Kd.slice 3 (Kd.int .i64)) 43 w w0.heap.size (fun _ => True) v ls) :
    Calls Try.prog 52 #[v, .int .i64 1] w fun e w' => e = .returned (.int .i64 ((1 + ls.length * n : Nat) : Int)) ∧ Kd.S (Kd.slice 3 (Kd.int .i64)) 43 w' w0.heap.size (fun _ => True) v (mks n ls.length) ∧ Below w0.heap.size w0 w' := by
  obtain ⟨A, c, rfl⟩ := Kd.S_slice hS
  have HS0 := Aside0.mk hS
  have HB0 := Aside0.mk hB
  have HR := Aside0.mk hrow
  obtain ⟨L, hLe⟩ : ∃ L, ls.length = L := ⟨_, rfl⟩
  rw [hLe] at hL HS0
  rw [hLe]
  have HLe := Aside0.mk hLe
  clear hS hB hrow hLe
  go_enter Try.func52, Try.ntmps52
  go_wp2_with (fail)
  go_loopw [1, 5] (fun v1 i wr => ∃ k : Nat, k ≤ L ∧ v1 = .int .i64 ((1 + k * n : Nat) : Int) ∧ i = .int .i64 (k : Int) ∧ Aside0 (Kd.S (Kd.slice 3 (Kd.int .i64)) 43 wr w0.heap.size (fun _ => True) (.slice A L c) (upTo n k ls)) ∧ Aside0 (Below w0.heap.size w0 wr)) (fun _ i _ => L - (intOf i).toNat)
  case atStart => exact ⟨0, by omega, by simp, rfl, ⟨by rw [upTo_zero]; exact HS0.out⟩, HB0⟩
  case round =>
    obtain ⟨k, hk, rfl, rfl, HS, HB⟩ := hrel
    by_cases hlt : k < L
    · have hul : (upTo n k ls).length = L := by rw [upTo_len n k ls (by rw [HLe.out]; omega), HLe.out]
      obtain ⟨g, cap, hv, -, -, -⟩ := Kd.S_form HS.out (by rw [hul]; omega)
      injection hv with e1 e2 e3
      subst e1
      clear e2 e3
      obtain ⟨oki, cv, hcl, ⟨v1, rfl, hR⟩, hcc, hoki, hH⟩ := Kd.S_lend HS.out [] (k : Int) (by omega) (by omega)
      have hc : wr.cell? ⟨g, k, none⟩ = some v1 := by
        have := hcc 0 v1 rfl
        simpa [Kd.slice] using this
      simp only [Int.toNat_natCast] at hR hH
      rw [upTo_at n k ls (by rw [HLe.out]; omega)] at hR
      have hx : (ls.getD k []).length = n := by
        rw [List.getD_eq_getElem?_getD, List.getElem?_eq_getElem (by rw [HLe.out]; omega)]
        exact HR.out _ (List.getElem_mem _)
      have HM := Aside0.mk (laws_markIntS.calls 5 oki v1 (ls.getD k []) _ _ _ w0 wr HB.out hR (mark_row n k 5 hn (by omega) _ hx (by omega)))
      have HH := Aside0.mk hH
      have HUL := Aside0.mk hul
      clear hR hH hcc hoki hx hcl hul HS
      go_wp2_with (fail)
      refine HM.out.mono ?_
      rintro e w1 ⟨rfl, hR1, hB1, hK1⟩
      have hS1 := Aside0.mk (Kd.H_back (Kd.H_step (Kd.H_widen HH.out) (fun q _ hq hlt => hK1.2 q hlt (fun h => hq (.inl h)))) (x' := mk n k) ⟨v1, rfl, hR1⟩ (fun q hq => hq.elim .inl (fun h => .inr ⟨trivial, h⟩)))
      rw [Int.toNat_natCast, upTo_set n k ls (by rw [HLe.out]; omega)] at hS1
      have hB2 := Aside0.mk hB1
      clear hR1 hB1 hK1 HM HH
      go_wp2_with (fail)
      go_roundw
      case rel => exact ⟨k + 1, by omega, rfl, by go_num, hS1, hB2⟩
      case measure => simp [intOf]; omega
    · obtain rfl : k = L := by omega
      go_wp2_with (fail)
      go_ret
      exact ⟨rfl, by have := HS.out; rw [← HLe.out, upTo_all] at this; rw [← HLe.out]; exact this, HB.out⟩
end Go.Proofs.Ytijpcemcijaeeaa.P
