/- Tables: what the reference's and the program's IsTable, size, and the words' bits come to, for all whole numbers of 64 bits. Conditions: the bounds that stand in each. -/
import Derived.Test.YtfiejicdlaknnaaK1
import Derived.Test.YtfiejicdlaknnaaK2
import Derived.Test.YtfiejicdlaknnaaPm1
import Derived.Test.YtfiejicdlaknnaaPz3
import Derived.Test.YtfiejicdlaknnaaPv7
import Derived.RegionTactic
import Derived.ChangeAlike
import Derived.OneCell
import Derived.Outline
import Derived.Lib.Hide
import Derived.Shelf.Abstract
import Derived.Laws.Strings
import Derived.Laws.BytesArg

namespace Go.Proofs.Ytfiejicdlaknnaa.Tab
set_option linter.unusedVariables false
set_option linter.unusedSimpArgs false
open Go Go.RowKit Go.Proofs.Ytfiejicdlaknnaa.P Go.Proofs.Ytfiejicdlaknnaa.Bits Go.Proofs.YtfiejicdlaknnaaW.PrintWords Go.Proofs.YtfiejicdlaknnaaW.PrintLast Go.Proofs.YtfiejicdlaknnaaW.PrintMore
def lim (n : Int) : Int := if n = 0 then 2 else if n = 1 then 4 else if n = 2 then 16 else if n = 3 then 256 else if n = 4 then 65536 else 4294967296
def two (n : Int) : Int := if n = 0 then 1 else if n = 1 then 2 else if n = 2 then 4 else if n = 3 then 8 else if n = 4 then 16 else 32
def isT (n w : Int) : Bool := decide (0 ≤ n ∧ n ≤ 5 ∧ 0 ≤ w ∧ w < lim n)
theorem six {n : Int} (h0 : 0 ≤ n) (h5 : n ≤ 5) : n = 0 ∨ n = 1 ∨ n = 2 ∨ n = 3 ∨ n = 4 ∨ n = 5 := by omega
theorem lim_le (n : Int) : 2 ≤ lim n ∧ lim n ≤ 4294967296 := by unfold lim; refine ⟨?_, ?_⟩ <;> (repeat' split) <;> omega
theorem two_le (n : Int) : 1 ≤ two n ∧ two n ≤ 32 := by unfold two; refine ⟨?_, ?_⟩ <;> (repeat' split) <;> omega
theorem full_at {n : Int} (h0 : 0 ≤ n) (h5 : n ≤ 5) : wrap64 (shl .i64 1 (shl .u64 1 n) - 1) = lim n - 1 := by
 rcases six h0 h5 with rfl | rfl | rfl | rfl | rfl | rfl <;> decide +kernel
theorem shl_two {n : Int} (h0 : 0 ≤ n) (h5 : n ≤ 5) : shl .i64 1 n = two n := by
 rcases six h0 h5 with rfl | rfl | rfl | rfl | rfl | rfl <;> decide +kernel
theorem two_at {n : Int} (h0 : 0 ≤ n) (h5 : n ≤ 5) : wrap64 (shl .i64 1 n - 1) = two n - 1 := by
 rcases six h0 h5 with rfl | rfl | rfl | rfl | rfl | rfl <;> decide +kernel
theorem lim_two {n : Int} (h0 : 0 ≤ n) (h5 : n ≤ 5) : lim n = 2 ^ (two n).toNat := by
 rcases six h0 h5 with rfl | rfl | rfl | rfl | rfl | rfl <;> decide +kernel
theorem shr_is {w c : Int} (hc : c ≤ 64) : shr .i64 w c = w / 2 ^ c.toNat := by
 unfold shr
 rw [Nat.min_eq_left (by simp [IntKind.bits]; omega)]
theorem shr_zero {n w : Int} (h0 : 0 ≤ n) (h5 : n ≤ 5) (hw : 0 ≤ w) : (shr .i64 w (two n) == 0) = decide (w < lim n) := by
 rw [shr_is (by have := two_le n; omega), ← lim_two h0 h5]
 have hl := lim_le n
 rw [Bool.eq_iff_iff]
 simp only [beq_iff_eq, decide_eq_true_eq]
 constructor
 ·intro h
  have := Int.lt_ediv_add_one_mul_self w (show 0 < lim n by omega)
  rw [h] at this
  omega
 ·intro h
  exact Int.ediv_eq_zero_of_lt hw h
theorem spec_IsTable_is (n w : Int) : spec_IsTable.f n w = some (isT n w) := by
 unfold spec_IsTable.f
 rw [l1In_is]
 by_cases h : 0 ≤ n ∧ n ≤ 5
 ·have e : decide (0 ≤ n ∧ n ≤ 5) = true := decide_eq_true h
  rw [e]
  simp only [Option.bind_some, if_true]
  rw [if_pos h.1, full_at h.1 h.2, l1In_is]
  simp only [Option.bind_some, isT]
  congr 1
  rw [decide_eq_decide]
  omega
 ·have e : decide (0 ≤ n ∧ n ≤ 5) = false := decide_eq_false h
  rw [e]
  simp only [Option.bind_some, Bool.false_eq_true, if_false]
  congr 1
  exact (decide_eq_false (fun q => h ⟨q.1, q.2.1⟩)).symm
theorem impl_isBits_is (n : Int) : impl_isBits.f n = some (decide (0 ≤ n ∧ n ≤ 5)) := by
 unfold impl_isBits.f
 by_cases h : n ≥ 0
 ·rw [if_pos h]; simp [h]
 ·rw [if_neg h]; simp [h]
theorem size_is {n w : Int} (h0 : 0 ≤ n) (h5 : n ≤ 5) : impl_Table_size.f n w = some (two n) := by
 unfold impl_Table_size.f
 rw [if_pos h0, shl_two h0 h5]
theorem impl_IsTable_is (n w : Int) : impl_IsTable.f n w = some (isT n w) := by
 unfold impl_IsTable.f
 rw [impl_isBits_is]
 by_cases h : 0 ≤ n ∧ n ≤ 5
 ·have e : decide (0 ≤ n ∧ n ≤ 5) = true := decide_eq_true h
  rw [e]
  simp only [Option.bind_some, if_true]
  by_cases hw : w ≥ 0
  ·rw [if_pos hw, size_is h.1 h.2]
   simp only [Option.bind_some]
   rw [if_pos (by have := two_le n; omega), shr_zero h.1 h.2 hw]
   congr 1
   unfold isT
   rw [decide_eq_decide]
   omega
  ·rw [if_neg hw]
   congr 1
   exact (decide_eq_false (fun q => hw q.2.2.1)).symm
 ·have e : decide (0 ≤ n ∧ n ≤ 5) = false := decide_eq_false h
  rw [e]
  simp only [Option.bind_some, Bool.false_eq_true, if_false]
  congr 1
  exact (decide_eq_false (fun q => h ⟨q.1, q.2.1⟩)).symm
theorem isT_yes {n w : Int} (h : isT n w = true) : 0 ≤ n ∧ n ≤ 5 ∧ 0 ≤ w ∧ w < lim n := of_decide_eq_true h
theorem impl_isInput_is {n x : Int} (h0 : 0 ≤ n) (h5 : n ≤ 5) : impl_isInput.f n x = some (decide (0 ≤ x ∧ x < two n)) := by
 unfold impl_isInput.f
 by_cases hx : x ≥ 0
 ·rw [if_pos hx, if_pos h0, shl_two h0 h5]
  simp [hx]
 ·rw [if_neg hx]
  simp [hx]
end Go.Proofs.Ytfiejicdlaknnaa.Tab

namespace Go.Proofs.Ytfiejicdlaknnaa.Tab
set_option linter.unusedVariables false
set_option linter.unusedSimpArgs false
open Go Go.RowKit Go.Proofs.Ytfiejicdlaknnaa.P Go.Proofs.Ytfiejicdlaknnaa.Bits Go.Proofs.YtfiejicdlaknnaaW.PrintWords Go.Proofs.YtfiejicdlaknnaaW.PrintLast Go.Proofs.YtfiejicdlaknnaaW.PrintMore
def isM (n m v : Int) : Bool := decide (0 ≤ n ∧ n ≤ 5 ∧ 0 ≤ m ∧ m < two n ∧ 0 ≤ v ∧ v ≤ m ∧ v.toNat &&& m.toNat = v.toNat)
theorem spec_IsTerm_is (n m v : Int) : spec_IsTerm.f n m v = some (isM n m v) := by
 by_cases h : 0 ≤ n ∧ n ≤ 5
 ·rw [isTerm_at n (two n - 1) m v h.1 h.2 (two_at h.1 h.2)]
  congr 1
  have h2 := two_le n
  by_cases hm : 0 ≤ m ∧ m ≤ two n - 1
  ·rw [if_pos hm]
   by_cases hv : 0 ≤ v ∧ v ≤ m
   ·rw [if_pos hv, and_int hv.1 (by omega) hm.1 (by omega)]
    unfold isM
    rw [Bool.eq_iff_iff]
    simp only [beq_iff_eq, decide_eq_true_eq]
    constructor
    ·intro q; exact ⟨h.1, h.2, hm.1, by omega, hv.1, hv.2, by omega⟩
    ·intro q; have := q.2.2.2.2.2.2; omega
   ·rw [if_neg hv]
    exact (decide_eq_false (fun q => hv ⟨q.2.2.2.2.1, q.2.2.2.2.2.1⟩)).symm
  ·rw [if_neg hm]
   exact (decide_eq_false (fun q => hm ⟨q.2.2.1, by have := q.2.2.2.1; omega⟩)).symm
 ·unfold spec_IsTerm.f
  rw [l1In_is]
  have e : decide (0 ≤ n ∧ n ≤ 5) = false := decide_eq_false h
  rw [e]
  simp only [Option.bind_some, Bool.false_eq_true, if_false]
  congr 1
  exact (decide_eq_false (fun q => h ⟨q.1, q.2.1⟩)).symm
theorem nat_sub_of_andNot {v m : Nat} : v ^^^ (v &&& m) = 0 ↔ v &&& m = v := by
 constructor
 ·intro h
  apply Nat.eq_of_testBit_eq
  intro i
  have q : (v ^^^ (v &&& m)).testBit i = false := by rw [h]; simp
  rw [Nat.testBit_xor] at q
  revert q
  cases v.testBit i <;> cases (v &&& m).testBit i <;> simp
 ·intro h
  rw [h, Nat.xor_self]
theorem impl_IsTerm_is (n m v : Int) (hv1 : v ≤ 9223372036854775807) : impl_IsTerm.f n m v = some (isM n m v) := by
 unfold impl_IsTerm.f
 rw [impl_isBits_is]
 by_cases h : 0 ≤ n ∧ n ≤ 5
 ·have e : decide (0 ≤ n ∧ n ≤ 5) = true := decide_eq_true h
  have h2 := two_le n
  rw [e]
  simp only [Option.bind_some, if_true]
  rw [impl_isInput_is h.1 h.2]
  simp only [Option.bind_some, decide_eq_true_eq]
  by_cases hm : 0 ≤ m ∧ m < two n
  ·rw [if_pos hm]
   by_cases hv : v ≥ 0
   ·rw [if_pos hv, andNot_int hv hv1 hm.1 (by omega)]
    congr 1
    unfold isM
    rw [Bool.eq_iff_iff]
    simp only [beq_iff_eq, decide_eq_true_eq]
    have k := @nat_sub_of_andNot v.toNat m.toNat
    constructor
    ·intro q
     have q2 := k.mp (by omega)
     have : v.toNat &&& m.toNat ≤ m.toNat := Nat.and_le_right
     exact ⟨h.1, h.2, hm.1, hm.2, hv, by omega, q2⟩
    ·intro q
     have := k.mpr q.2.2.2.2.2.2
     omega
   ·rw [if_neg hv]
    congr 1
    exact (decide_eq_false (fun q => hv q.2.2.2.2.1)).symm
  ·rw [if_neg hm]
   congr 1
   exact (decide_eq_false (fun q => hm ⟨q.2.2.1, q.2.2.2.1⟩)).symm
 ·have e : decide (0 ≤ n ∧ n ≤ 5) = false := decide_eq_false h
  rw [e]
  simp only [Option.bind_some, Bool.false_eq_true, if_false]
  congr 1
  exact (decide_eq_false (fun q => h ⟨q.1, q.2.1⟩)).symm
end Go.Proofs.Ytfiejicdlaknnaa.Tab

namespace Go.Proofs.Ytfiejicdlaknnaa.Shl
set_option linter.unusedVariables false
set_option linter.unusedSimpArgs false
open Go Go.RowKit Go.Proofs.Ytfiejicdlaknnaa.P Go.Proofs.Ytfiejicdlaknnaa.Bits Go.Proofs.Ytfiejicdlaknnaa.Tab Go.Proofs.YtfiejicdlaknnaaW.PrintWords Go.Proofs.YtfiejicdlaknnaaW.PrintLast Go.Proofs.YtfiejicdlaknnaaW.PrintMore
theorem shl_one_nat {i : Nat} (hi : i ≤ 62) : shl .i64 1 (i : Int) = ((2 ^ i : Nat) : Int) := by
 unfold shl
 rw [Nat.min_eq_left (by simp [IntKind.bits]; omega), Int.toNat_natCast, Int.one_mul]
 have : ((2 : Int) ^ i) = ((2 ^ i : Nat) : Int) := by push_cast; rfl
 rw [this]
 exact wrap_nat _ (Nat.pow_lt_pow_right (by decide) (by omega))
theorem shl_zero_nat (i : Nat) : shl .i64 0 (i : Int) = 0 := by
 unfold shl
 rw [Int.zero_mul]
 rfl
theorem word63 (p : Nat → Bool) {m : Nat} (hm : m ≤ 63) : wordOf p m < 2 ^ 63 := Nat.lt_of_lt_of_le (wordOf_lt p m) (Nat.pow_le_pow_right (by decide) hm)
theorem or_pow {x i : Nat} (hx : x < 2 ^ 63) (hi : i ≤ 62) : bits .or .i64 (x : Int) (shl .i64 1 (i : Int)) = ((x ||| 2 ^ i : Nat) : Int) := by
 rw [shl_one_nat hi]
 exact or_nat _ _ hx (Nat.pow_lt_pow_right (by decide) (by omega))
theorem shl_two_nat {n : Nat} (hn : n ≤ 5) : shl .i64 1 (n : Int) = ((2 ^ n : Nat) : Int) := shl_one_nat (by omega)
theorem two_nat {n : Nat} (hn : n ≤ 5) : two (n : Int) = ((2 ^ n : Nat) : Int) := by rw [← shl_two (by omega) (by omega), shl_two_nat hn]
theorem pow_le_32 {n : Nat} (hn : n ≤ 5) : 2 ^ n ≤ 32 := by
 have := Nat.pow_le_pow_right (show 0 < 2 by decide) hn
 omega
end Go.Proofs.Ytfiejicdlaknnaa.Shl

namespace Go.Proofs.Ytfiejicdlaknnaa.P
open Go.RowKit Go.Proofs.YtfiejicdlaknnaaW.PrintWords Go.Proofs.YtfiejicdlaknnaaW.PrintLast Go.Proofs.YtfiejicdlaknnaaW.PrintMore
attribute [local go_sem] max2_int min2_int max_two min_two max_three min_three max_four min_four   -- for this text's walks alone
set_option linter.unusedVariables false
set_option linter.unusedSimpArgs false

attribute [local go_sem] fld25_0 fld25_1
/-! ### spec_l6Primes: function 37 -/
mutual
def spec_l6Primes.l0 : Nat → List (S33) → Int → Int → Int → Option ((List (S33)))
 | 0, _, _, _, _ => none
 | k + 1, x3, x4, x254000, x254001 => if 0 ≤ x254000 then (if x4 < (shl .i64 1 x254000) then (spec_l6Primes.l1 k x3 x4 0 x254000 x254001) else (some x3)) else (none)
def spec_l6Primes.l1 : Nat → List (S33) → Int → Int → Int → Int → Option ((List (S33)))
 | 0, _, _, _, _, _ => none
 | k + 1, x3, x4, x5, x254000, x254001 => if x5 ≤ x4 then (if (Go.bits .and .i64 x5 x4) = x5 then ((spec_l6Prime.f k x254000 x254001 x4 x5).bind fun t258 => (if t258 = true then (if x3.length < 8796093022208 then (spec_l6Primes.l1 k (x3 ++ [(⟨x4, x5⟩ : S33)]) x4 (wrap64 (x5 + 1)) x254000 x254001) else (none)) else (spec_l6Primes.l1 k x3 x4 (wrap64 (x5 + 1)) x254000 x254001))) else (spec_l6Primes.l1 k x3 x4 (wrap64 (x5 + 1)) x254000 x254001)) else (spec_l6Primes.l0 k x3 (wrap64 (x4 + 1)) x254000 x254001)
end
def spec_l6Primes.f (k : Nat) (a0_0 : Int) (a0_1 : Int) : Option ((List (S33))) := spec_l6Primes.l0 k (([] : List (S33))) 0 a0_0 a0_1
theorem spec_l6Primes.mono_l : ∀ k, (∀ y0 y1 y2 y3, LeO (spec_l6Primes.l0 k y0 y1 y2 y3) (spec_l6Primes.l0 (k + 1) y0 y1 y2 y3)) ∧ (∀ y0 y1 y2 y3 y4, LeO (spec_l6Primes.l1 k y0 y1 y2 y3 y4) (spec_l6Primes.l1 (k + 1) y0 y1 y2 y3 y4))
 | 0 => ⟨fun _ _ _ _ r h => by simp [spec_l6Primes.l0] at h, fun _ _ _ _ _ r h => by simp [spec_l6Primes.l1] at h⟩
 | k + 1 => by
  obtain ⟨ih0, ih1⟩ := spec_l6Primes.mono_l k
  refine ⟨?_, ?_⟩
  ·intro y0 y1 y2 y3
   unfold spec_l6Primes.l0
   repeat' first
   | (with_reducible exact ih0 _ _ _ _)
   | (with_reducible exact ih1 _ _ _ _ _)
   | (with_reducible exact spec_l6Prime.mono _ _ _ _ _)
   | (with_reducible exact LeO.refl _)
   | (with_reducible exact LeO.none _)
   | (with_reducible refine LeO.ite ?_ ?_)
   | (with_reducible refine LeO.bind ?_ (fun _ => ?_))
   | exact ih0 _ _ _ _
   | exact ih1 _ _ _ _ _
   | exact spec_l6Prime.mono _ _ _ _ _
   | exact LeO.none _
   | refine LeO.ite ?_ ?_
   | refine LeO.bind ?_ (fun _ => ?_)
  ·intro y0 y1 y2 y3 y4
   unfold spec_l6Primes.l1
   repeat' first
   | (with_reducible exact ih0 _ _ _ _)
   | (with_reducible exact ih1 _ _ _ _ _)
   | (with_reducible exact spec_l6Prime.mono _ _ _ _ _)
   | (with_reducible exact LeO.refl _)
   | (with_reducible exact LeO.none _)
   | (with_reducible refine LeO.ite ?_ ?_)
   | (with_reducible refine LeO.bind ?_ (fun _ => ?_))
   | exact ih0 _ _ _ _
   | exact ih1 _ _ _ _ _
   | exact spec_l6Prime.mono _ _ _ _ _
   | exact LeO.none _
   | refine LeO.ite ?_ ?_
   | refine LeO.bind ?_ (fun _ => ?_)
theorem spec_l6Primes.mono : ∀ a0 a1 k, LeO (spec_l6Primes.f k a0 a1) (spec_l6Primes.f (k + 1) a0 a1) := by
 intro a0 a1 k
 obtain ⟨ih0, ih1⟩ := spec_l6Primes.mono_l k
 unfold spec_l6Primes.f
 repeat' first
   | (with_reducible exact ih0 _ _ _ _)
   | (with_reducible exact ih1 _ _ _ _ _)
   | (with_reducible exact spec_l6Prime.mono _ _ _ _ _)
   | (with_reducible exact LeO.refl _)
   | (with_reducible exact LeO.none _)
   | (with_reducible refine LeO.ite ?_ ?_)
   | (with_reducible refine LeO.bind ?_ (fun _ => ?_))
   | exact ih0 _ _ _ _
   | exact ih1 _ _ _ _ _
   | exact spec_l6Prime.mono _ _ _ _ _
   | exact LeO.none _
   | refine LeO.ite ?_ ?_
   | refine LeO.bind ?_ (fun _ => ?_)
set_option maxHeartbeats 8000000 in
set_option maxRecDepth 100000 in
theorem spec_l6Primes.calls (k : Nat) (a0_0 : Int) (a0_1 : Int) (r : List (S33)) (w : World) (h : spec_l6Primes.f k a0_0 a0_1 = some r) :
  Calls Try.prog 37 #[.agg #[.int .i64 a0_0, .int .i64 a0_1]] w fun e w' => ∃ v0_ : Value, e = .returned (v0_) ∧ Kd.R k33 33 w' w.heap.size (fun _ => True) v0_ r ∧ Below w.heap.size w w' := by
 have hu25 := Try.underlying25
 have hu33 := Try.underlying33
 have HB := zA (Below.refl w.heap.size w)
 have H : (spec_l6Primes.l0 k (([] : List (S33))) 0 a0_0 a0_1) = some r := h
 clear h
 obtain ⟨y254, hy254⟩ : ∃ y_ : List (S33), y_ = (([] : List (S33))) := ⟨_, rfl⟩
 replace H : (spec_l6Primes.l0 k y254 0 a0_0 a0_1) = some r := by first | (rw [hy254]; with_reducible exact H) | (have H2_ := (Option.bind_some _ _).symm.trans H; rw [hy254]; with_reducible exact H2_) | (have H2_ := (Option.bind_some _ _).symm.trans H; with_reducible exact H2_) | with_reducible exact H | (rw [hy254]; exact H) | exact H
 have Ny254 := zA hy254
 clear hy254
 have H' := zA H
 clear H
 go_enter Try.func37, Try.ntmps37
 go_wp2_with (first | ((with_reducible refine gate_dst (N := 1) rfl ?_); refine box_event ?hg (N := 1) ?hd (cs := #[.int .i64 a0_0, .int .i64 a0_1]) (t := 25) ?hr ?_; (case hd => rfl); (case hg => rfl); (case hr => exact zH); intro gb253 hg w2 hbox hb; have BK253 := zA (hbox); have GW253 := zg HB hg; have GE253 := zg HB hg; replace HB := zA (below_step (zB HB) hb); clear hb hbox hg) | ((with_reducible refine gate_dst (N := 7) rfl ?_); refine Kd.R_lit k33 _ 33 ?hg (N := 7) ?hd (xs := ([] : List (S33))) (inner := []) (ok := fun _ => True) (okp := fun _ => True) ?hr ?hp (fun _ hk => hk) trivial (Below.refl _ _) (Nat.le_refl _) (by simp) ?_; (case hd => rfl); (case hg => rfl); (case hr => exact zH); (case hp => exact (Reps.none _ _)); intro v255 w3 ho4 hb hg_ hnew_; clear hg_ hnew_; (first | rw [← Ny254.out] at ho4 | (simp only [Int.reduceToNat] at ho4; rw [← Ny254.out] at ho4)); have HO256 := zA (Kd.R_lower ho4 (below_size (zB1 HB GE253))); replace BK253 := zb BK253 hb; replace HB := zA (below_step (zB1 HB GE253) hb); clear hb ho4))
 go_loopg [3, 4] k (fun kq v3 v4 w' => ∃ (x3_1 : List (S33)) (x4_1 : Int), v4 = .int .i64 x4_1 ∧ Aside0 (spec_l6Primes.l0 kq x3_1 x4_1 a0_0 a0_1 = some r) ∧ Aside0 (kq ≤ k) ∧ Aside0 (Kd.R k33 33 w' w.heap.size (fun _ => True) v3 x3_1) ∧ Aside0 (w'.heap[gb253]? = some (.cells #[.int .i64 a0_0, .int .i64 a0_1] 25 (0, 0))) ∧ Aside0 (Below w.heap.size w w'))
 case atStart => exact ⟨(y254), (0), zS, H', ⟨Nat.le_refl _⟩, ⟨zR HO256⟩, ⟨zD BK253⟩, ⟨zB1 HB GE253⟩⟩
 case round =>
  clear H'
  obtain ⟨x3_1, x4_1, rfl, HA, HK1, HO_3, BK253, HB⟩ := hrel
  cases gk with
  | zero => exact absurd HA.out (by simp [spec_l6Primes.l0])
  | succ k1 =>
   have H := HA.out
   clear HA
   simp only [spec_l6Primes.l0] at H
   by_cases c5 : 0 ≤ a0_0
   ·rw [if_pos c5] at H
    have c5b0 := eq_true c5
    have c5b1 : decide (0 ≤ a0_0) = true := decide_eq_true c5
    clear c5
    obtain ⟨ji6, hji6⟩ : ∃ j_ : Int, (shl .i64 1 a0_0) = j_ := ⟨_, rfl⟩
    replace H : (if x4_1 < (ji6) then (spec_l6Primes.l1 k1 x3_1 x4_1 0 a0_0 a0_1) else (some x3_1)) = some r := by first | (rw [hji6] at H; exact H) | (simp only [hji6] at H ⊢; exact H)
    have hji6_ : (IntKind.i64.wrap (1 * 2 ^ min a0_0.toNat 64)) = ji6 := hji6
    have hji6z : a0_0 ≤ 64 → (IntKind.i64.wrap (1 * 2 ^ a0_0.toNat)) = ji6 := shl_small hji6
    have hji6u : (IntKind.i64.wrap (2 ^ min a0_0.toNat 64)) = ji6 := by have h_ := hji6_; rw [Int.one_mul] at h_; exact h_
    have hji6v : a0_0 ≤ 64 → (IntKind.i64.wrap (2 ^ a0_0.toNat)) = ji6 := fun hle_ => by have h_ := hji6z hle_; rw [Int.one_mul] at h_; exact h_
    have hji6y : (wrap64 (1 * 2 ^ min a0_0.toNat 64)) = ji6 := (i64_w _).symm.trans hji6_
    have hji6x : a0_0 ≤ 64 → (wrap64 (1 * 2 ^ a0_0.toNat)) = ji6 := fun h_ => (i64_w _).symm.trans (hji6z h_)
    by_cases c7 : x4_1 < (ji6)
    ·rw [if_pos c7] at H
     have c7b0 : decide (x4_1 < (ji6)) = true := decide_eq_true c7
     clear c7
     have H' := zA H
     clear H
     have hcz8_0 := zc0 BK253
     have hcz8_1 := zc1 BK253
     have hfz8_0 := blk_frozen BK253.out 0
     have hfz8_1 := blk_frozen BK253.out 1
     go_wp2
     go_loopg [3, 5] k1 (fun kq v3 v5 w' => ∃ (x3_2 : List (S33)) (x5_2 : Int), v5 = .int .i64 x5_2 ∧ Aside0 (spec_l6Primes.l1 kq x3_2 x4_1 x5_2 a0_0 a0_1 = some r) ∧ Aside0 (kq ≤ k1) ∧ Aside0 (Kd.R k33 33 w' w.heap.size (fun _ => True) v3 x3_2) ∧ Aside0 (w'.heap[gb253]? = some (.cells #[.int .i64 a0_0, .int .i64 a0_1] 25 (0, 0))) ∧ Aside0 (Below w.heap.size w w'))
     case atStart => exact ⟨(x3_1), (0), zS, H', ⟨Nat.le_refl _⟩, ⟨zR HO_3⟩, ⟨zD BK253⟩, ⟨zB1 HB GE253⟩⟩
     case round =>
      clear H'
      try clear c5
      try clear c5b0
      try clear c5b1
      try clear c7
      try clear c7b0
      try clear hcz8_0
      try clear hcz8_1
      try clear hfz8_0
      try clear hfz8_1
      obtain ⟨x3_2, x5_2, rfl, HA, HK2, HO_3, BK253, HB⟩ := hrel
      cases gk with
      | zero => exact absurd HA.out (by simp [spec_l6Primes.l1])
      | succ k2 =>
       have H := HA.out
       clear HA
       simp only [spec_l6Primes.l1] at H
       by_cases c9 : x5_2 ≤ x4_1
       ·rw [if_pos c9] at H
        have c9b0 : decide (x5_2 ≤ x4_1) = true := decide_eq_true c9
        clear c9
        by_cases c10 : (Go.bits .and .i64 x5_2 x4_1) = x5_2
        ·rw [if_pos c10] at H
         have c10b0 : ((Go.bits .and .i64 x5_2 x4_1) == x5_2) = true := beq_iff_eq.mpr c10
         have c10b1 : ((Go.bits .and .i64 x5_2 x4_1) != x5_2) = false := bne_eq_false_iff_eq.mpr c10
         clear c10
         replace H := Option.bind_eq_some_iff.mp H
         obtain ⟨t258, A110, H⟩ := H
         replace H : (if t258 = true then (if x3_2.length < 8796093022208 then (spec_l6Primes.l1 k2 (x3_2 ++ [(⟨x4_1, x5_2⟩ : S33)]) x4_1 (wrap64 (x5_2 + 1)) a0_0 a0_1) else (none)) else (spec_l6Primes.l1 k2 x3_2 x4_1 (wrap64 (x5_2 + 1)) a0_0 a0_1)) = some r := H
         have A11 := zA A110
         clear A110
         by_cases c12 : t258 = true
         ·subst c12
          have H1 : (if x3_2.length < 8796093022208 then (spec_l6Primes.l1 k2 (x3_2 ++ [(⟨x4_1, x5_2⟩ : S33)]) x4_1 (wrap64 (x5_2 + 1)) a0_0 a0_1) else (none)) = some r := by rw [if_pos rfl] at H; exact H
          clear H
          have H := H1
          clear H1
          by_cases c13 : x3_2.length < 8796093022208
          ·rw [if_pos c13] at H
           have LMc13 := zA c13
           clear c13
           obtain ⟨y259, hy259⟩ : ∃ y_ : List (S33), y_ = (x3_2 ++ [(⟨x4_1, x5_2⟩ : S33)]) := ⟨_, rfl⟩
           replace H : (spec_l6Primes.l1 k2 y259 x4_1 (wrap64 (x5_2 + 1)) a0_0 a0_1) = some r := by first | (rw [hy259]; with_reducible exact H) | (have H2_ := (Option.bind_some _ _).symm.trans H; rw [hy259]; with_reducible exact H2_) | (have H2_ := (Option.bind_some _ _).symm.trans H; with_reducible exact H2_) | with_reducible exact H | (rw [hy259]; exact H) | exact H
           have Ny259 := zA hy259
           clear hy259
           have H' := zA H
           clear H
           go_wp2_with (first | ((with_reducible refine gate_dst (N := 6) rfl ?_); refine box_event ?hg (N := 6) ?hd (cs := #[.int .i64 0, .int .i64 0]) (t := 33) ?hr ?_; (case hd => rfl); (case hg => rfl); (case hr => exact zH); intro gb257 hg w14 hbox hb; have BK257 := zA (hbox); have GW257 := zg1 HB GE253 hg; have GE257 := zg1 HB GE253 hg; have NB253_257 := zn BK253 hg; have NB257_253 := zo BK253 hg; replace HO_3 := zA (Kd.R_below (Kd.R_elderB (zR HO_3) gb257 (Nat.le_of_eq hg.symm)) hb); replace BK253 := zb BK253 hb; replace HB := zA (below_step (zB1 HB GE253) hb); clear hb hbox hg; have hnb15 := NB257_253.out; have hnc15 := NB253_257.out; have hcz16_0 := zc0 BK257; have hcz16_1 := zc1 BK257; have hfz16_0 := blk_frozen BK257.out 0; have hfz16_1 := blk_frozen BK257.out 1; have hcz17_0 := zc0 BK253; have hcz17_1 := zc1 BK253; have hfz17_0 := blk_frozen BK253.out 0; have hfz17_1 := blk_frozen BK253.out 1) | (go_at_call 58; (with_reducible refine (spec_l6Prime.calls k2 a0_0 a0_1 x4_1 x5_2 true _ A11.out).mono ?_); rintro e w18 ⟨rfl, hb⟩; replace HO_3 := zA (Kd.R_below (by (with_reducible repeat (first | apply Kd.R_alloc | apply Kd.R_drewN | apply Kd.R_drew)); exact (Kd.R_mono (Kd.R_far (p := ⟨gb257, 1, none⟩) (Kd.R_far (p := ⟨gb257, 0, none⟩) (Kd.R_mono HO_3.out (fun k_ hk => (⟨hk, hk.2⟩ : _ ∧ k_ ≠ gb257))) (fun _ hk => hk.2) (.int .i64 x4_1)) (fun _ hk => hk.2) (.int .i64 x5_2)) (fun _ h_ => h_.1))) hb); replace BK253 := zf BK253 NB253_257 hb; replace BK257 := zp BK257 hb; replace HB := zA (below_step (zB2 HB GE253 GE257) hb); (try clear hb); (try clear hb2); (try clear hk); (try clear hi); have hcz19_0 := zc0 BK257; have hcz19_1 := zc1 BK257; have hfz19_0 := blk_frozen BK257.out 0; have hfz19_1 := blk_frozen BK257.out 1) | ((with_reducible refine gate_builtin (b := .append) (xs := #[.tmp 33, .tmp 35]) rfl ?_); at_builtin; refine Kd.R_append k33 (w0 := w) w.heap.size rfl (.tmp 33) (.tmp 35) 27 33 (.agg #[(.int .i64 0), (.int .i64 0)]) 16 rfl Try.underlying27 info33 rfl (by decide) (by omega) u3 x3_2 (⟨x4_1, x5_2⟩ : S33) [.int .i64 x4_1, .int .i64 x5_2] (fun k_ => k_ ≠ gb257) (fun _ => False) rfl rfl ?aP (fun _ hk => hk.elim) ?aF ?aO ?aB ?aS ?aL ?_; (case aP => exact k33_mkM _ _ _ (⟨x4_1, x5_2⟩ : S33)); (case aB => exact (zB2 HB GE253 GE257)); (case aF => exact (fun k_ hk => Kd.freshB (g := gb257) (o := .cells #[.int .i64 x4_1, .int .i64 x5_2] 33 (0, 0)) (zD BK257) k_ hk)); (case aO => exact (by (with_reducible repeat (first | apply Kd.R_alloc | apply Kd.R_drewN | apply Kd.R_drew)); exact Kd.R_mono HO_3.out (fun _ hk => hk.2))); (case aS => exact (below_size (zB2 HB GE253 GE257))); (case aL => have := LMc13.out; omega); intro v260 w20 ho hb hg hat; rw [← Ny259.out] at ho; have n0_ := zA (blk_grown (g := gb253) (o := .cells #[.int .i64 a0_0, .int .i64 a0_1] 25 (0, 0)) (zD BK253) hg (Kd.R_ne HO_3.out BK253.out (by decide))); have n1_ := zA (blk_grown (g := gb257) (o := .cells #[.int .i64 x4_1, .int .i64 x5_2] 33 (0, 0)) (zD BK257) hg (Kd.R_away HO_3.out (fun _ hk => hk.2))); have n2_ := zA (hb); have n3_ := zA (ho); clear BK253; clear BK257; clear HB; clear HO_3; have BK253 := n0_; have BK257 := n1_; have HB := n2_; have HO261 := n3_; clear n0_ n1_ n2_ n3_; clear ho hb hg hat))
           go_roundg k2
           case measure => have := HK1.out; have := HK2.out; omega
           case rel => exact ⟨(y259), (wrap64 (x5_2 + 1)), zS, H', ⟨by have := HK1.out; have := HK2.out; omega⟩, ⟨by (with_reducible repeat (first | apply Kd.R_alloc | apply Kd.R_drewN | apply Kd.R_drew)); exact Kd.R_mono HO261.out (fun _ hk => trivial)⟩, ⟨zD BK253⟩, ⟨zB2 HB GE253 GE257⟩⟩
          ·rw [if_neg c13] at H
           exact absurd H (by simp)
         ·replace c12 := Bool.eq_false_iff.mpr c12
          subst c12
          have H1 : (spec_l6Primes.l1 k2 x3_2 x4_1 (wrap64 (x5_2 + 1)) a0_0 a0_1) = some r := by rw [if_neg (show ¬ (false = true) by decide)] at H; exact H
          clear H
          have H := H1
          clear H1
          have H' := zA H
          clear H
          go_wp2_with (first | ((with_reducible refine gate_dst (N := 6) rfl ?_); refine box_event ?hg (N := 6) ?hd (cs := #[.int .i64 0, .int .i64 0]) (t := 33) ?hr ?_; (case hd => rfl); (case hg => rfl); (case hr => exact zH); intro gb257 hg w21 hbox hb; have BK257 := zA (hbox); have GW257 := zg1 HB GE253 hg; have GE257 := zg1 HB GE253 hg; have NB253_257 := zn BK253 hg; have NB257_253 := zo BK253 hg; replace HO_3 := zA (Kd.R_below (Kd.R_elderB (zR HO_3) gb257 (Nat.le_of_eq hg.symm)) hb); replace BK253 := zb BK253 hb; replace HB := zA (below_step (zB1 HB GE253) hb); clear hb hbox hg; have hnb22 := NB257_253.out; have hnc22 := NB253_257.out; have hcz23_0 := zc0 BK257; have hcz23_1 := zc1 BK257; have hfz23_0 := blk_frozen BK257.out 0; have hfz23_1 := blk_frozen BK257.out 1; have hcz24_0 := zc0 BK253; have hcz24_1 := zc1 BK253; have hfz24_0 := blk_frozen BK253.out 0; have hfz24_1 := blk_frozen BK253.out 1) | (go_at_call 58; (with_reducible refine (spec_l6Prime.calls k2 a0_0 a0_1 x4_1 x5_2 false _ A11.out).mono ?_); rintro e w25 ⟨rfl, hb⟩; replace HO_3 := zA (Kd.R_below (by (with_reducible repeat (first | apply Kd.R_alloc | apply Kd.R_drewN | apply Kd.R_drew)); exact (Kd.R_mono (Kd.R_far (p := ⟨gb257, 1, none⟩) (Kd.R_far (p := ⟨gb257, 0, none⟩) (Kd.R_mono HO_3.out (fun k_ hk => (⟨hk, hk.2⟩ : _ ∧ k_ ≠ gb257))) (fun _ hk => hk.2) (.int .i64 x4_1)) (fun _ hk => hk.2) (.int .i64 x5_2)) (fun _ h_ => h_.1))) hb); replace BK253 := zf BK253 NB253_257 hb; replace BK257 := zp BK257 hb; replace HB := zA (below_step (zB2 HB GE253 GE257) hb); (try clear hb); (try clear hb2); (try clear hk); (try clear hi)))
          go_roundg k2
          case measure => have := HK1.out; have := HK2.out; omega
          case rel => exact ⟨(x3_2), (wrap64 (x5_2 + 1)), zS, H', ⟨by have := HK1.out; have := HK2.out; omega⟩, ⟨by (with_reducible repeat (first | apply Kd.R_alloc | apply Kd.R_drewN | apply Kd.R_drew)); exact Kd.R_mono HO_3.out (fun _ hk => trivial)⟩, ⟨zD BK253⟩, ⟨zB2 HB GE253 GE257⟩⟩
        ·rw [if_neg c10] at H
         have c10b0 : ((Go.bits .and .i64 x5_2 x4_1) == x5_2) = false := beq_eq_false_iff_ne.mpr c10
         have c10b1 : ((Go.bits .and .i64 x5_2 x4_1) != x5_2) = true := bne_iff_ne.mpr c10
         have H' := zA H
         clear H
         go_wp2_with (first | ((with_reducible refine gate_dst (N := 6) rfl ?_); refine box_event ?hg (N := 6) ?hd (cs := #[.int .i64 0, .int .i64 0]) (t := 33) ?hr ?_; (case hd => rfl); (case hg => rfl); (case hr => exact zH); intro gb257 hg w26 hbox hb; have BK257 := zA (hbox); have GW257 := zg1 HB GE253 hg; have GE257 := zg1 HB GE253 hg; have NB253_257 := zn BK253 hg; have NB257_253 := zo BK253 hg; replace HO_3 := zA (Kd.R_below (Kd.R_elderB (zR HO_3) gb257 (Nat.le_of_eq hg.symm)) hb); replace BK253 := zb BK253 hb; replace HB := zA (below_step (zB1 HB GE253) hb); clear hb hbox hg; have hnb27 := NB257_253.out; have hnc27 := NB253_257.out; have hcz28_0 := zc0 BK257; have hcz28_1 := zc1 BK257; have hfz28_0 := blk_frozen BK257.out 0; have hfz28_1 := blk_frozen BK257.out 1))
         go_roundg k2
         case measure => have := HK1.out; have := HK2.out; omega
         case rel => exact ⟨(x3_2), (wrap64 (x5_2 + 1)), zS, H', ⟨by have := HK1.out; have := HK2.out; omega⟩, ⟨by (with_reducible repeat (first | apply Kd.R_alloc | apply Kd.R_drewN | apply Kd.R_drew)); exact Kd.R_mono (Kd.R_far (p := ⟨gb257, 1, none⟩) (Kd.R_far (p := ⟨gb257, 0, none⟩) (Kd.R_mono HO_3.out (fun k_ hk => (⟨hk, hk.2⟩ : _ ∧ k_ ≠ gb257))) (fun _ hk => hk.2) (.int .i64 x4_1)) (fun _ hk => hk.2) (.int .i64 x5_2)) (fun _ hk => trivial)⟩, ⟨zF BK253 NB253_257⟩, ⟨zB2 HB GE253 GE257⟩⟩
       ·rw [if_neg c9] at H
        have c9b0 : decide (x5_2 ≤ x4_1) = false := decide_eq_false c9
        clear c9
        have H' := zA H
        clear H
        go_wp2
        go_roundg k2
        case measure => have := HK1.out; have := HK2.out; omega
        case rel => exact ⟨(x3_2), (wrap64 (x4_1 + 1)), zS, H', ⟨by have := HK1.out; have := HK2.out; omega⟩, ⟨zR HO_3⟩, ⟨zD BK253⟩, ⟨zB1 HB GE253⟩⟩
    ·rw [if_neg c7] at H
     have c7b0 : decide (x4_1 < (ji6)) = false := decide_eq_false c7
     clear c7
     obtain rfl := Option.some.inj H
     have hcz29_0 := zc0 BK253
     have hcz29_1 := zc1 BK253
     have hfz29_0 := blk_frozen BK253.out 0
     have hfz29_1 := blk_frozen BK253.out 1
     go_wp2
     go_ret
     exact ⟨_, by first | rfl | (simp [errW_none, errW_some] <;> rfl) | (simp only [← hji6]; first | rfl | (simp [errW_none, errW_some] <;> rfl)) | (simp [*, errW_none, errW_some] <;> rfl), by (with_reducible repeat (first | apply Kd.R_alloc | apply Kd.R_drewN | apply Kd.R_drew)); exact HO_3.out, zB1 HB GE253⟩
   ·rw [if_neg c5] at H
    exact absurd H (by simp)

end Go.Proofs.Ytfiejicdlaknnaa.P

namespace Go.Proofs.Ytfiejicdlaknnaa.Imp
set_option linter.unusedVariables false
set_option linter.unusedSimpArgs false
open Go Go.RowKit Go.Proofs.Ytfiejicdlaknnaa.P Go.Proofs.Ytfiejicdlaknnaa.Bits Go.Proofs.Ytfiejicdlaknnaa.Tab Go.Proofs.Ytfiejicdlaknnaa.Shl Go.Proofs.YtfiejicdlaknnaaW.PrintWords Go.Proofs.YtfiejicdlaknnaaW.PrintLast Go.Proofs.YtfiejicdlaknnaaW.PrintMore

theorem seen_iff (w m v : Nat) (b : Bool) : ∀ k, seenB w m v b k = true ↔ ∃ i, i < k ∧ i &&& m = v ∧ w.testBit i = b := by
 intro k
 induction k with
 | zero => simp [seenB]
 | succ k ih =>
  rw [seenB, Bool.or_eq_true, ih, Bool.and_eq_true, decide_eq_true_eq, beq_iff_eq]
  constructor
  ·rintro (⟨i, h1, h2, h3⟩ | ⟨h2, h3⟩)
   ·exact ⟨i, by omega, h2, h3⟩
   ·exact ⟨k, by omega, h2, h3⟩
  ·rintro ⟨i, h1, h2, h3⟩
   by_cases e : i = k
   ·subst e; exact Or.inr ⟨h2, h3⟩
   ·exact Or.inl ⟨i, by omega, h2, h3⟩

def wt (m v M : Nat) : Nat := wordOf (fun x => decide (x &&& m = v)) M
def impB (n w m v : Int) : Bool := !seenB w.toNat m.toNat v.toNat false (2 ^ n.toNat)

theorem word_loop (n m v : Nat) (hn : n ≤ 5) (hm : m < 32) (hv : v < 32) : ∀ (d j k : Nat), j + d = 2 ^ n → d < k →
  spec_l6Word.l0 k (n : Int) ((wt m v j : Nat) : Int) (j : Int) (m : Int) (v : Int) = some ((wt m v (2 ^ n) : Nat) : Int) := by
 have h32 := pow_le_32 hn
 intro d
 induction d with
 | zero =>
  intro j k hj hk
  obtain ⟨k, rfl⟩ : ∃ q, k = q + 1 := ⟨k - 1, by omega⟩
  obtain rfl : j = 2 ^ n := by omega
  simp only [spec_l6Word.l0]
  rw [if_pos (by omega), shl_two_nat hn, if_neg (by omega)]
 | succ d ih =>
  intro j k hj hk
  obtain ⟨k, rfl⟩ : ∃ q, k = q + 1 := ⟨k - 1, by omega⟩
  simp only [spec_l6Word.l0]
  rw [if_pos (by omega), shl_two_nat hn, if_pos (by omega), and_int (by omega) (by omega) (by omega) (by omega), Int.toNat_natCast, Int.toNat_natCast, w64 (by omega) (by omega)]
  have ih' := ih (j + 1) k (by omega) (by omega)
  rw [show ((j + 1 : Nat) : Int) = (j : Int) + 1 from by omega] at ih'
  have o := Shl.or_pow (i := j) (word63 (fun x => decide (x &&& m = v)) (m := j) (by omega)) (by omega)
  unfold wt at ih' ⊢
  by_cases hc : j &&& m = v
  ·rw [if_pos (by omega), if_pos (by omega), o]
   simp only [wordOf, decide_eq_true hc, if_true] at ih'
   exact ih'
  ·rw [if_neg (by omega)]
   simp only [wordOf, decide_eq_false hc, Bool.false_eq_true, if_false, Nat.or_zero] at ih'
   exact ih'

theorem implies_spec {n w m v : Int} (n0 : 0 ≤ n) (n5 : n ≤ 5) (w0 : 0 ≤ w) (w1 : w ≤ 4294967296) (m0 : 0 ≤ m) (m1 : m < 32) (v0 : 0 ≤ v) (v1 : v < 32) {k : Nat} (hk : 32 < k) :
  spec_l6Implies.f k n w m v = some (impB n w m v) := by
 obtain ⟨N, rfl⟩ := Int.eq_ofNat_of_zero_le n0
 obtain ⟨W, rfl⟩ := Int.eq_ofNat_of_zero_le w0
 obtain ⟨M, rfl⟩ := Int.eq_ofNat_of_zero_le m0
 obtain ⟨V, rfl⟩ := Int.eq_ofNat_of_zero_le v0
 have h32 := pow_le_32 (show N ≤ 5 by omega)
 have h : spec_l6Word.f k (N : Int) (M : Int) (V : Int) = some ((wt M V (2 ^ N) : Nat) : Int) := word_loop N M V (by omega) (by omega) (by omega) (2 ^ N) 0 k (by omega) (by omega)
 have hw : wt M V (2 ^ N) < 2 ^ 63 := word63 _ (by omega)
 have hp : (2 : Nat) ^ 63 = 9223372036854775808 := p63
 unfold spec_l6Implies.f impB
 rw [h]
 simp only [Option.bind_some]
 rw [and_int (by omega) (by omega) (by omega) (by omega)]
 simp only [Int.toNat_natCast]
 congr 1
 rw [Bool.eq_iff_iff, Bool.not_eq_true', ← Bool.not_eq_true, seen_iff, beq_iff_eq]
 constructor
 ·intro q
  have q' : wt M V (2 ^ N) &&& W = wt M V (2 ^ N) := by omega
  rintro ⟨i, h1, h2, h3⟩
  have t : (wt M V (2 ^ N)).testBit i = true := by
   unfold wt
   rw [testBit_wordOf, decide_eq_true h1, decide_eq_true h2]
   rfl
  have t2 : (wt M V (2 ^ N) &&& W).testBit i = true := by rw [q']; exact t
  rw [Nat.testBit_and, h3, Bool.and_false] at t2
  exact absurd t2 (by decide)
 ·intro q
  have q' : wt M V (2 ^ N) &&& W = wt M V (2 ^ N) := by
   apply Nat.eq_of_testBit_eq
   intro i
   rw [Nat.testBit_and]
   cases t : (wt M V (2 ^ N)).testBit i
   ·rfl
   ·unfold wt at t
    rw [testBit_wordOf, Bool.and_eq_true, decide_eq_true_eq, decide_eq_true_eq] at t
    cases b : W.testBit i
    ·exact absurd ⟨i, t.1, t.2, b⟩ q
    ·rfl
  omega

theorem implies_impl {n w m v : Int} (n0 : 0 ≤ n) (n5 : n ≤ 5) (w0 : 0 ≤ w) (w1 : w ≤ 4294967296) (m0 : 0 ≤ m) (m1 : m < two n) (v0 : 0 ≤ v) (hs : v.toNat &&& m.toNat = v.toNat) :
  impl_Table_isImplicant.f n w m v = some (impB n w m v) := by
 obtain ⟨N, rfl⟩ := Int.eq_ofNat_of_zero_le n0
 obtain ⟨W, rfl⟩ := Int.eq_ofNat_of_zero_le w0
 obtain ⟨M, rfl⟩ := Int.eq_ofNat_of_zero_le m0
 obtain ⟨V, rfl⟩ := Int.eq_ofNat_of_zero_le v0
 simp only [Int.toNat_natCast] at hs
 have hle : V &&& M ≤ M := Nat.and_le_right
 rw [hs] at hle
 have h32 := pow_le_32 (show N ≤ 5 by omega)
 rw [two_nat (show N ≤ 5 by omega)] at m1
 unfold impl_Table_isImplicant.f impl_Table_cube.f impB
 rw [if_pos ⟨n0, n5, w0, w1, m0, by omega, v0, by omega⟩]
 simp only [Option.bind_some, Int.toNat_natCast]
 congr 1
 have hsome : seenB W M V true (2 ^ N) = true ∨ seenB W M V false (2 ^ N) = true := by
  cases b : W.testBit V
  ·exact Or.inr ((seen_iff _ _ _ _ _).mpr ⟨V, by omega, hs, b⟩)
  ·exact Or.inl ((seen_iff _ _ _ _ _).mpr ⟨V, by omega, hs, b⟩)
 revert hsome
 unfold cubeV
 cases seenB W M V true (2 ^ N) <;> cases seenB W M V false (2 ^ N) <;> simp
end Go.Proofs.Ytfiejicdlaknnaa.Imp
namespace Go.Proofs.Ytfiejicdlaknnaa.Pri
set_option linter.unusedVariables false
set_option linter.unusedSimpArgs false
open Go Go.RowKit Go.Proofs.Ytfiejicdlaknnaa.P Go.Proofs.Ytfiejicdlaknnaa.Bits Go.Proofs.Ytfiejicdlaknnaa.Tab Go.Proofs.Ytfiejicdlaknnaa.Shl Go.Proofs.Ytfiejicdlaknnaa.Imp Go.Proofs.YtfiejicdlaknnaaW.PrintWords Go.Proofs.YtfiejicdlaknnaaW.PrintLast Go.Proofs.YtfiejicdlaknnaaW.PrintMore

theorem drop_all : ∀ (m : Fin 32) (i : Fin 5), m.val &&& 2 ^ i.val = 0 ∨ (m.val &&& 2 ^ i.val = 2 ^ i.val ∧ 2 ^ i.val ≤ m.val ∧ m.val ^^^ (m.val &&& 2 ^ i.val) = m.val - 2 ^ i.val) := by decide +kernel
theorem drop_val : ∀ (v : Fin 32) (i : Fin 5), v.val &&& 2 ^ i.val ≤ v.val ∧ v.val ^^^ (v.val &&& 2 ^ i.val) = v.val - (v.val &&& 2 ^ i.val) := by decide +kernel

theorem drop_sub {v m p : Nat} (h : v &&& m = v) : (v ^^^ (v &&& p)) &&& (m ^^^ (m &&& p)) = v ^^^ (v &&& p) := by
 apply Nat.eq_of_testBit_eq
 intro i
 have hb : (v &&& m).testBit i = v.testBit i := by rw [h]
 rw [Nat.testBit_and] at hb
 simp only [Nat.testBit_and, Nat.testBit_xor]
 revert hb
 cases v.testBit i <;> cases m.testBit i <;> cases p.testBit i <;> simp

theorem prime_loop (n m v : Nat) (w : Int) (hn : n ≤ 5) (hm : m < 2 ^ n) (hs : v &&& m = v) (w0 : 0 ≤ w) (w1 : w ≤ 4294967296) : ∀ (d i k : Nat), i + d = n → d + 33 < k →
  ∃ r, spec_l6Prime.l0 k (i : Int) (n : Int) w (m : Int) (v : Int) = some r ∧ impl_Table_isPrime.l0 k (n : Int) (i : Int) (n : Int) w (m : Int) (v : Int) = some r := by
 have h32 := pow_le_32 hn
 have hle : v &&& m ≤ m := Nat.and_le_right
 rw [hs] at hle
 intro d
 induction d with
 | zero =>
  intro i k hi hk
  obtain ⟨k, rfl⟩ : ∃ q, k = q + 1 := ⟨k - 1, by omega⟩
  simp only [spec_l6Prime.l0, impl_Table_isPrime.l0]
  rw [if_neg (show ¬ (i : Int) < (n : Int) by omega), if_neg (show ¬ (i : Int) < (n : Int) by omega)]
  exact ⟨_, rfl, rfl⟩
 | succ d ih =>
  intro i k hi hk
  obtain ⟨k, rfl⟩ : ∃ q, k = q + 1 := ⟨k - 1, by omega⟩
  have hp : 2 ^ i ≤ 2 ^ 4 := Nat.pow_le_pow_right (by decide) (by omega)
  have d1 := drop_all ⟨m, by omega⟩ ⟨i, by omega⟩
  have d2 := drop_val ⟨v, by omega⟩ ⟨i, by omega⟩
  simp only at d1 d2
  have hpos := Nat.two_pow_pos i
  have es := shl_one_nat (show i ≤ 62 by omega)
  obtain ⟨p, ep⟩ : ∃ p, p = 2 ^ i := ⟨_, rfl⟩
  rw [← ep] at hp d1 d2 hpos es
  simp only [spec_l6Prime.l0, impl_Table_isPrime.l0]
  rw [if_pos (show (i : Int) < (n : Int) by omega), if_pos (show (i : Int) < (n : Int) by omega), if_pos (show 0 ≤ (i : Int) by omega), if_pos (show 0 ≤ (i : Int) by omega), es, and_int (a := (m : Int)) (by omega) (by omega) (by omega) (by omega), w64 (x := (i : Int) + 1) (by omega) (by omega)]
  simp only [Int.toNat_natCast]
  obtain ⟨r, r1, r2⟩ := ih (i + 1) k (by omega) (by omega)
  rw [show ((i + 1 : Nat) : Int) = (i : Int) + 1 from by omega] at r1 r2
  rcases d1 with d1 | ⟨d1, d3, d4⟩
  ·rw [if_pos (by omega), if_pos (by omega)]
   exact ⟨r, r1, r2⟩
  ·rw [if_neg (by omega), if_neg (by omega), and_int (a := (v : Int)) (by omega) (by omega) (by omega) (by omega), andNot_int (a := (m : Int)) (by omega) (by omega) (by omega) (by omega), andNot_int (a := (v : Int)) (by omega) (by omega) (by omega) (by omega)]
   simp only [Int.toNat_natCast]
   have hdm := drop_sub (p := p) hs
   rw [w64 (by omega) (by omega), w64 (by omega) (by omega)]
   have e1 : (m : Int) - (p : Int) = ((m ^^^ (m &&& p) : Nat) : Int) := by omega
   have e2 : (v : Int) - ((v &&& p : Nat) : Int) = ((v ^^^ (v &&& p) : Nat) : Int) := by omega
   rw [e1, e2]
   have t := two_nat hn
   rw [implies_spec (by omega) (by omega) w0 w1 (by omega) (by omega) (by omega) (by omega) (by omega), implies_impl (by omega) (by omega) w0 w1 (by omega) (by omega) (by omega) (by rw [Int.toNat_natCast, Int.toNat_natCast]; exact hdm)]
   simp only [Option.bind_some]
   split
   ·exact ⟨_, rfl, rfl⟩
   ·exact ⟨r, r1, r2⟩

theorem prime_same (n m v : Nat) (w : Int) (hn : n ≤ 5) (hm : m < 2 ^ n) (hs : v &&& m = v) (w0 : 0 ≤ w) (w1 : w ≤ 4294967296) {k : Nat} (hk : 40 ≤ k) :
  ∃ r, spec_l6Prime.f k (n : Int) w (m : Int) (v : Int) = some r ∧ impl_Table_isPrime.f k (n : Int) w (m : Int) (v : Int) = some r := by
 have h32 := pow_le_32 hn
 have t := two_nat hn
 have hle : v &&& m ≤ m := Nat.and_le_right
 rw [hs] at hle
 obtain ⟨r, r1, r2⟩ := prime_loop n m v w hn hm hs w0 w1 n 0 k (by omega) (by omega)
 have r1' : spec_l6Prime.l0 k 0 (n : Int) w (m : Int) (v : Int) = some r := r1
 have r2' : impl_Table_isPrime.l0 k (n : Int) 0 (n : Int) w (m : Int) (v : Int) = some r := r2
 unfold spec_l6Prime.f impl_Table_isPrime.f
 rw [implies_spec (by omega) (by omega) w0 w1 (by omega) (by omega) (by omega) (by omega) (by omega), implies_impl (by omega) (by omega) w0 w1 (by omega) (by omega) (by omega) (by rw [Int.toNat_natCast, Int.toNat_natCast]; exact hs)]
 simp only [Option.bind_some]
 split
 ·exact ⟨r, r1', r2'⟩
 ·exact ⟨_, rfl, rfl⟩

theorem primes_inner (n m d : Nat) (w : Int) (hn : n ≤ 5) (hm : m < 2 ^ n) (w0 : 0 ≤ w) (w1 : w ≤ 4294967296)
  (H : ∀ (k : Nat) (xs : List S33), xs.length ≤ 33 * (m + 1) → 34 * d + 60 ≤ k → ∃ r, r.length ≤ 1100 ∧ spec_l6Primes.l0 k xs ((m : Int) + 1) (n : Int) w = some r ∧ impl_Table_primes.l0 k xs ((2 ^ n : Nat) : Int) ((m : Int) + 1) (n : Int) w = some r) :
  ∀ (e v k : Nat) (xs : List S33), v + e = m + 1 → xs.length ≤ 33 * m + v → 34 * d + 61 + e ≤ k → ∃ r, r.length ≤ 1100 ∧ spec_l6Primes.l1 k xs (m : Int) (v : Int) (n : Int) w = some r ∧ impl_Table_primes.l1 k xs (m : Int) ((2 ^ n : Nat) : Int) (m : Int) ((m : Int) + 1) (v : Int) (n : Int) w = some r := by
 have h32 := pow_le_32 hn
 intro e
 induction e with
 | zero =>
  intro v k xs hv hx hk
  obtain ⟨k, rfl⟩ : ∃ q, k = q + 1 := ⟨k - 1, by omega⟩
  simp only [spec_l6Primes.l1, impl_Table_primes.l1]
  rw [if_neg (show ¬ (v : Int) ≤ (m : Int) by omega), if_neg (show ¬ (v : Int) < (m : Int) + 1 by omega), w64 (by omega) (by omega)]
  exact H k xs (by omega) (by omega)
 | succ e ih =>
  intro v k xs hv hx hk
  obtain ⟨k, rfl⟩ : ∃ q, k = q + 1 := ⟨k - 1, by omega⟩
  have ih' : ∀ ys : List S33, ys.length ≤ 33 * m + (v + 1) → ∃ r, r.length ≤ 1100 ∧ spec_l6Primes.l1 k ys (m : Int) ((v : Int) + 1) (n : Int) w = some r ∧ impl_Table_primes.l1 k ys (m : Int) ((2 ^ n : Nat) : Int) (m : Int) ((m : Int) + 1) ((v : Int) + 1) (n : Int) w = some r := fun ys hy => ih (v + 1) k ys (by omega) hy (by omega)
  simp only [spec_l6Primes.l1, impl_Table_primes.l1]
  rw [if_pos (show (v : Int) ≤ (m : Int) by omega), if_pos (show (v : Int) < (m : Int) + 1 by omega), and_int (by omega) (by omega) (by omega) (by omega), andNot_int (by omega) (by omega) (by omega) (by omega), w64 (x := (v : Int) + 1) (by omega) (by omega)]
  simp only [Int.toNat_natCast]
  by_cases hs : v &&& m = v
  ·obtain ⟨b, b1, b2⟩ := prime_same n m v w hn hm hs w0 w1 (k := k) (by omega)
   rw [if_pos (show ((v &&& m : Nat) : Int) = (v : Int) by omega), if_pos (show ((v ^^^ (v &&& m) : Nat) : Int) = 0 by rw [hs, Nat.xor_self]; rfl), b1, b2]
   simp only [Option.bind_some]
   cases b
   ·simp only [Bool.false_eq_true, if_false]
    exact ih' xs (by omega)
   ·simp only [if_true, if_pos (show xs.length < 8796093022208 by omega)]
    exact ih' _ (by simp; omega)
  ·have hx2 : ¬ (v ^^^ (v &&& m) = 0) := fun q => hs (xor_zero.mp q).symm
   rw [if_neg (show ¬ ((v &&& m : Nat) : Int) = (v : Int) by omega), if_neg (show ¬ ((v ^^^ (v &&& m) : Nat) : Int) = 0 by omega)]
   exact ih' xs (by omega)

theorem primes_outer (n : Nat) (w : Int) (hn : n ≤ 5) (w0 : 0 ≤ w) (w1 : w ≤ 4294967296) : ∀ (d m k : Nat) (xs : List S33), m + d = 2 ^ n → xs.length ≤ 33 * m → 34 * d + 60 ≤ k →
  ∃ r, r.length ≤ 1100 ∧ spec_l6Primes.l0 k xs (m : Int) (n : Int) w = some r ∧ impl_Table_primes.l0 k xs ((2 ^ n : Nat) : Int) (m : Int) (n : Int) w = some r := by
 have h32 := pow_le_32 hn
 intro d
 induction d with
 | zero =>
  intro m k xs hm hx hk
  obtain ⟨k, rfl⟩ : ∃ q, k = q + 1 := ⟨k - 1, by omega⟩
  simp only [spec_l6Primes.l0, impl_Table_primes.l0]
  rw [if_pos (show 0 ≤ (n : Int) by omega), shl_two_nat hn, if_neg (by omega), if_neg (by omega)]
  exact ⟨xs, by omega, rfl, rfl⟩
 | succ d ih =>
  intro m k xs hm hx hk
  obtain ⟨k, rfl⟩ : ∃ q, k = q + 1 := ⟨k - 1, by omega⟩
  simp only [spec_l6Primes.l0, impl_Table_primes.l0]
  have hlt : (m : Int) < ((2 ^ n : Nat) : Int) := by exact_mod_cast (show m < 2 ^ n by omega)
  rw [if_pos (show 0 ≤ (n : Int) by omega), shl_two_nat hn, if_pos hlt, if_pos hlt, w64 (by omega) (by omega)]
  refine primes_inner n m d w hn (by omega) w0 w1 ?_ (m + 1) 0 k xs (by omega) (by omega) (by omega)
  intro k' ys hy hk'
  exact ih (m + 1) k' ys (by omega) (by omega) hk'

theorem primes_same {n w : Int} (h : isT n w = true) {k : Nat} (hk : 1200 ≤ k) : ∃ r, r.length ≤ 1100 ∧ spec_l6Primes.f k n w = some r ∧ impl_Table_primes.f k n w = some r := by
 obtain ⟨h0, h5, hw, hl⟩ := isT_yes h
 have hl2 := lim_le n
 obtain ⟨N, rfl⟩ := Int.eq_ofNat_of_zero_le h0
 have h32 := pow_le_32 (show N ≤ 5 by omega)
 unfold spec_l6Primes.f impl_Table_primes.f
 rw [size_is h0 h5, two_nat (by omega)]
 exact primes_outer N w (by omega) hw (by omega) (2 ^ N) 0 k [] (by omega) (by simp) (by omega)
end Go.Proofs.Ytfiejicdlaknnaa.Pri

namespace Go.Proofs.Ytfiejicdlaknnaa.P
set_option linter.unusedVariables false
set_option linter.unusedSimpArgs false
open Go.RowKit Go.Proofs.Ytfiejicdlaknnaa.Bits Go.Proofs.YtfiejicdlaknnaaW.PrintWords Go.Proofs.YtfiejicdlaknnaaW.PrintLast Go.Proofs.YtfiejicdlaknnaaW.PrintMore
def PredT (g : Nat) (c0 : Value) (p : S33 → Bool) (l : List S33) (w : World) : Prop :=
 ∀ (x : S33) (W : World), x ∈ l → Below w.heap.size w W → Calls Try.prog g #[.agg #[.int .i64 x.f0, .int .i64 x.f1], c0] W fun e w' => e = .returned (.bool (p x)) ∧ Below W.heap.size W w'
def IdxP (p : S33 → Bool) (l : List S33) (w : World) (e : Ending) (w' : World) : Prop := (∃ r : Int, e = .returned (.int .i64 r) ∧ decide (0 ≤ r) = l.any p) ∧ Below w.heap.size w w'
theorem any_false_of {α : Type} (p : α → Bool) (l : List α) (h : ∀ x ∈ l, p x = false) : l.any p = false := by
 rw [Bool.eq_false_iff]
 intro q
 obtain ⟨x, hx, hp⟩ := List.any_eq_true.mp q
 rw [h x hx] at hp
 exact absurd hp (by decide)
theorem rd_mem {l : List S33} {k : Nat} (h : k < l.length) : rd_T33 l (k : Int) ∈ l := by
 unfold rd_T33
 rw [Int.toNat_natCast, List.getD_eq_getElem?_getD, List.getElem?_eq_getElem h]
 exact List.getElem_mem h
theorem any_of_rd {l : List S33} {p : S33 → Bool} {k : Nat} (h : k < l.length) (hp : p (rd_T33 l (k : Int)) = true) : l.any p = true :=
 List.any_eq_true.mpr ⟨_, rd_mem h, hp⟩
theorem none_of_rd {l : List S33} {p : S33 → Bool} (h : ∀ j, j < l.length → p (rd_T33 l (j : Int)) = false) : l.any p = false := by
 apply any_false_of
 intro x hx
 obtain ⟨j, hj, rfl⟩ := List.mem_iff_getElem.mp hx
 have := h j hj
 unfold rd_T33 at this
 rwa [Int.toNat_natCast, List.getD_eq_getElem?_getD, List.getElem?_eq_getElem hj] at this
set_option maxHeartbeats 1000000 in
set_option maxRecDepth 100000 in
theorem indexFunc_calls (g : Nat) (c0 : Value) (p : S33 → Bool) (eg : ∀ args w, (callFunc g args).run Try.prog w = .ok (.enter g args) w) (A : Option Addr) (c : Nat) (l : List S33) (w : World) (HR : Kd.C k33 w A l.length l) (hl : l.length ≤ 1152921504606846976) (hp : PredT g c0 p l w) :
  Calls Try.prog 76 #[.slice A l.length c, .func (.func g) #[] #[c0]] w (IdxP p l w) := by
 have HC := Go.Lib.hid HR
 have HP := Go.Lib.hid hp
 clear HR hp
 go_enter Try.func76, Try.ntmps76
 go_wp2_with (fail)
 go_loopw [5, 8] (fun v5 i wr => ∃ k : Nat, k ≤ l.length ∧ i = .int .i64 (k : Int) ∧ Aside0 (∀ j, j < k → p (rd_T33 l (j : Int)) = false) ∧ Aside0 (Below w.heap.size w wr)) (fun _ i _ => l.length - (intOf i).toNat)
 case atStart =>
  exact ⟨0, by omega, rfl, ⟨fun j hj => absurd hj (by omega)⟩, ⟨Below.refl _ _⟩⟩
 case round =>
  obtain ⟨k, hk, rfl, HN, HB⟩ := hrel
  by_cases hlt : k < l.length
  ·obtain ⟨ad, rfl, h0, h1⟩ := at_T33 (Kd.C_below HC.out HB.out) (k : Int) (by omega) (by omega)
   have hm := rd_mem hlt
   have hcall := HP.out _ wr hm HB.out
   have HA := Go.Lib.hid (@any_of_rd l p k hlt)
   have HX : p (rd_T33 l (k : Int)) = true ∨ p (rd_T33 l (k : Int)) = false := by cases p (rd_T33 l (k : Int)) <;> simp
   generalize hx : rd_T33 l (k : Int) = x at h0 h1 hcall HX
   have HXX := Go.Lib.hid hx
   clear hx hm
   rw [Int.toNat_natCast] at h0 h1
   rcases HX with hq | hq
   ·rw [hq] at hcall
    go_wp2_with (go_at_fn g; refine hcall.mono ?_; rintro e w' ⟨rfl, hb⟩)
    go_ret
    exact ⟨⟨(k : Int), rfl, by rw [HA.out (by rw [HXX.out]; exact hq)]; exact decide_eq_true (by omega)⟩, below_then HB.out HB.out.size hb⟩
   ·rw [hq] at hcall
    go_wp2_with (go_at_fn g; refine hcall.mono ?_; rintro e w' ⟨rfl, hb⟩)
    go_roundw
    case rel =>
     refine ⟨k + 1, by omega, by go_num, ⟨fun j hj => ?_⟩, ⟨below_then HB.out HB.out.size hb⟩⟩
     by_cases e : j = k
     ·subst e; rw [HXX.out]; exact hq
     ·exact HN.out j (by omega)
    case measure => simp [intOf]; omega
  ·obtain rfl : k = l.length := by omega
   go_wp2_with (fail)
   go_ret
   exact ⟨⟨-1, rfl, by rw [none_of_rd HN.out]; rfl⟩, HB.out⟩
set_option maxHeartbeats 1000000 in
set_option maxRecDepth 100000 in
theorem containsFunc_calls (g : Nat) (c0 : Value) (p : S33 → Bool) (eg : ∀ args w, (callFunc g args).run Try.prog w = .ok (.enter g args) w) (A : Option Addr) (c : Nat) (l : List S33) (w : World) (HR : Kd.C k33 w A l.length l) (hl : l.length ≤ 1152921504606846976) (hp : PredT g c0 p l w) :
  Calls Try.prog 66 #[.slice A l.length c, .func (.func g) #[] #[c0]] w fun e w' => e = .returned (.bool (l.any p)) ∧ Below w.heap.size w w' := by
 have hc := Go.Lib.hid (indexFunc_calls g c0 p eg A c l w HR hl hp)
 clear HR hp
 go_enter Try.func66, Try.ntmps66
 go_wp2_with (go_at_call 76; refine hc.out.mono ?_; rintro e w' ⟨⟨r, rfl, hr⟩, hb⟩; have HR := Go.Lib.hid hr; clear hr)
 go_ret
 exact ⟨ret_bool HR.out, hb⟩
end Go.Proofs.Ytfiejicdlaknnaa.P
namespace Go.Proofs.Ytfiejicdlaknnaa.P
set_option linter.unusedVariables false
set_option linter.unusedSimpArgs false
open Go.RowKit Go.Proofs.Ytfiejicdlaknnaa.Bits Go.Proofs.YtfiejicdlaknnaaW.PrintWords Go.Proofs.YtfiejicdlaknnaaW.PrintLast Go.Proofs.YtfiejicdlaknnaaW.PrintMore
set_option maxHeartbeats 1000000 in
set_option maxRecDepth 100000 in
theorem makeTable_sum (n : Int) (N : Nat) (h1 : N ≤ 32) (hN : ∀ W : World, Sem.run Try.prog (Op.shift BinOp.shl IntKind.i64 1 IntKind.i64 n) W = .ok (.int .i64 (N : Int)) W) (c0 : Value) (p : Nat → Bool) (w : World)
  (hcl : ∀ (k : Nat) (W : World), k < N → Below w.heap.size w W → Calls Try.prog 65 #[.int .i64 (k : Int), c0] W fun e w' => e = .returned (.bool (p k)) ∧ Below W.heap.size W w') :
  Calls Try.prog 64 #[.int .i64 n, .func (.func 65) #[] #[c0]] w fun e w' => e = .returned (.agg #[.int .i64 n, .int .i64 (wordOf p N : Nat)]) ∧ Below w.heap.size w w' := by
 have HC := Go.Lib.hid hcl
 clear hcl
 go_enter Try.func64, Try.ntmps64
 go_wp2
 go_loopw [6, 11] (fun v6 i wr => ∃ k : Nat, k ≤ N ∧ i = .int .i64 (k : Int) ∧ wr.heap[w.heap.size + 1]? = some (.cells #[.int .i64 n, .int .i64 (wordOf p k : Nat)] 25 (0, 0)) ∧ wr.heap[w.heap.size]? = some (.cells #[.int .i64 0, .int .i64 0] 25 (0, 0)) ∧ Below w.heap.size w wr) (fun _ i _ => N - (intOf i).toNat)
 case atStart =>
  refine ⟨0, by omega, rfl, ?_, ?_, ((Below.refl _ _).alloc (Nat.le_refl _) _).alloc (by simp) _⟩
  ·simpa [wordOf] using heap_alloc_new (w.alloc (.cells #[.int .i64 0, .int .i64 0] 25)) (.cells #[.int .i64 n, .int .i64 0] 25)
  ·exact (Below.heap_alloc _ _ _ (by simp)).trans (heap_alloc_new _ _)
 case round =>
  obtain ⟨k, hk, rfl, hb1, hb0, hB⟩ := hrel
  have HB1 := Go.Lib.hid hb1
  have HB0 := Go.Lib.hid hb0
  have HBB := Go.Lib.hid hB
  clear hb1 hb0 hB
  by_cases hlt : k < N
  ·go_wp2_with (fail)
   refine (HC.out k wr hlt HBB.out).mono ?_
   rintro e w2 ⟨rfl, hb⟩
   have hs := shift_one k (by omega)
   have B1 : w2.heap[w.heap.size + 1]? = some (.cells #[.int .i64 n, .int .i64 (wordOf p k : Nat)] 25 (0, 0)) := (hb.block _ (blk_lt HB1.out)).trans HB1.out
   have c0 : w2.cell? ⟨w.heap.size + 1, 0, none⟩ = some (.int .i64 n) := blk_cell B1 0
   have c1 : w2.cell? ⟨w.heap.size + 1, 1, none⟩ = some (.int .i64 (wordOf p k : Nat)) := blk_cell B1 1
   have f1 : w2.frozen? ⟨w.heap.size + 1, 1, none⟩ = false := blk_frozen B1 1
   cases hp : p k
   ·have HP := Go.Lib.hid hp
    clear hp
    go_wp2
    go_roundw
    case rel => exact ⟨k + 1, by omega, by go_num, by rw [B1]; simp only [wordOf, HP.out]; simp, (hb.block _ (blk_lt HB0.out)).trans HB0.out, below_then HBB.out HBB.out.size hb⟩
    case measure => simp [intOf]; omega
   ·have HP := Go.Lib.hid hp
    clear hp
    go_wp2
    go_region
    go_wp2
    go_roundw
    case rel => exact ⟨k + 1, by omega, by go_num, blk_drew (blk_put B1 1 _ (by simp only [wordOf, HP.out, if_true]; rw [or_pow p k (by omega)]; rfl)), blk_drew (blk_far ((hb.block _ (blk_lt HB0.out)).trans HB0.out) (by simp) _), (below_set (below_then HBB.out HBB.out.size hb) (by simp)).drew⟩
    case measure => simp [intOf]; omega
  ·have c0 : wr.cell? ⟨w.heap.size + 1, 0, none⟩ = some (.int .i64 n) := blk_cell HB1.out 0
   have c1 : wr.cell? ⟨w.heap.size + 1, 1, none⟩ = some (.int .i64 (wordOf p k : Nat)) := blk_cell HB1.out 1
   have f0 : wr.frozen? ⟨w.heap.size, 0, none⟩ = false := blk_frozen HB0.out 0
   have f1 : wr.frozen? ⟨w.heap.size, 1, none⟩ = false := blk_frozen HB0.out 1
   have d0 : wr.cell? ⟨w.heap.size, 0, none⟩ = some (.int .i64 0) := blk_cell HB0.out 0
   have d1 : wr.cell? ⟨w.heap.size, 1, none⟩ = some (.int .i64 0) := blk_cell HB0.out 1
   obtain rfl : k = N := by omega
   go_wp2
   refine bodyPost_ret (results_cell_row rfl _ _ w.heap.size 25 #[.int .i64 n, .int .i64 (wordOf p k : Nat)] (0, 0) _ rfl ?_ Try.underlying25 rfl (by kernel_rfl)) rfl ⟨rfl, ?_⟩
   ·exact blk_put (blk_put (cs' := #[.int .i64 n, .int .i64 0]) HB0.out 0 _ rfl) 1 _ rfl
   ·exact below_set (below_set HBB.out (Nat.le_refl _)) (Nat.le_refl _)
def holdsB (x : Int) (t : S33) : Bool := (bits .and .i64 x t.f0) == t.f1
set_option maxHeartbeats 400000 in
theorem sum11_calls (x : Int) (t : S33) (b : Nat) (W : World) (hc : W.cell? ⟨b, 0, none⟩ = some (.int .i64 x)) (hb : b < W.heap.size) :
  Calls Try.prog 67 #[.agg #[.int .i64 t.f0, .int .i64 t.f1], .pointer (some ⟨b, 0, none⟩)] W fun e w' => e = .returned (.bool (holdsB x t)) ∧ Below W.heap.size W w' := by
 have hne : b ≠ W.heap.size := by omega
 have HH := Go.Lib.hid (show impl_Term_holds.f t.f0 t.f1 x = some (holdsB x t) from rfl)
 generalize holdsB x t = r at *
 generalize t.f0 = m at *
 generalize t.f1 = v at *
 go_enter Try.func67, Try.ntmps67
 go_wp2_with (go_at_call 60; refine (impl_Term_holds.calls m v x r _ HH.out).mono ?_; rintro e w' ⟨rfl, hb⟩)
 go_ret
 exact ⟨rfl, below_then (below_alloc (Below.refl _ _) _) (by simp) hb⟩
set_option maxHeartbeats 1000000 in
theorem sum1_calls (A : Option Addr) (c : Nat) (l : List S33) (x b : Nat) (W : World) (HR : Kd.C k33 W A l.length l) (hl : l.length ≤ 1152921504606846976) (hb : b < W.heap.size) (hc : W.cell? ⟨b, 0, none⟩ = some (.slice A l.length c)) :
  Calls Try.prog 65 #[.int .i64 (x : Int), .pointer (some ⟨b, 0, none⟩)] W fun e w' => e = .returned (.bool (l.any (holdsB (x : Int)))) ∧ Below W.heap.size W w' := by
 have hne : b ≠ W.heap.size := by omega
 have hB1 : Below W.heap.size W (W.alloc (.cells #[.int .i64 (x : Int)] 3)) := below_alloc (Below.refl _ _) _
 have hpred : PredT 67 (.pointer (some ⟨W.heap.size, 0, none⟩)) (holdsB (x : Int)) l (W.alloc (.cells #[.int .i64 (x : Int)] 3)) := by
  intro t W1 _ hb1
  refine sum11_calls (x : Int) t W.heap.size W1 ?_ ?_
  ·exact pw_cell_below hb1 (by go_simp)
  ·have := hb1.size
   simp at this
   omega
 have HC := Go.Lib.hid (containsFunc_calls 67 (.pointer (some ⟨W.heap.size, 0, none⟩)) (holdsB (x : Int)) (fun args w => enters_of Try.func67 (by kernel_rfl) rfl args w) A c l _ (Kd.C_below HR hB1) hl hpred)
 have HB1 := Go.Lib.hid hB1
 have hmf : ∀ (fn : Fn) (first cap : Array Value) (w : World), (Instr.makeFunc fn first cap).run Try.prog w = .ok (.func fn first cap) w := fun _ _ _ _ => rfl
 clear HR hl hpred hB1
 generalize l.any (holdsB (x : Int)) = r at *
 go_enter Try.func65, Try.ntmps65
 go_wp2_with (go_at_call 66; refine HC.out.mono ?_; rintro e w' ⟨rfl, hb⟩)
 go_ret
 exact ⟨rfl, below_then HB1.out HB1.out.size hb⟩
def impl_sumOf.f (a0 : Int) (l1 : List S33) : Option (Int × Int) := if 0 ≤ a0 ∧ a0 ≤ 5 ∧ l1.length ≤ 1152921504606846976 then some (a0, (wordOf (fun x => l1.any (holdsB (x : Int))) (2 ^ a0.toNat) : Nat)) else none
set_option maxHeartbeats 1000000 in
set_option maxRecDepth 100000 in
theorem impl_sumOf.calls (a0 : Int) (A1 : Option Addr) (c1 : Nat) (l1 : List S33) (r1 : Int) (r2 : Int) (w : World) (hr1 : Kd.C k33 w A1 l1.length l1) (hc1 : l1.length ≤ c1) (h : impl_sumOf.f a0 l1 = some (r1, r2)) :
  Calls Try.prog 42 #[.int .i64 a0, .slice A1 l1.length c1] w fun e w' => e = .returned (.agg #[.int .i64 r1, .int .i64 r2]) ∧ Below w.heap.size w w' := by
 unfold impl_sumOf.f at h
 split at h
 ·rename_i hh
  obtain ⟨g0, g1, g2⟩ := hh
  obtain ⟨n, rfl⟩ := Int.eq_ofNat_of_zero_le g0
  simp only [Option.some.injEq, Prod.mk.injEq, Int.toNat_natCast] at h
  obtain ⟨rfl, rfl⟩ := h
  have hN := shift_one n (by omega)
  have h32 : 2 ^ n ≤ 2 ^ 5 := Nat.pow_le_pow_right (by decide) (by omega)
  have HCR := Go.Lib.hid hr1
  have HC := Go.Lib.hid (fun W => makeTable_sum (n : Int) (2 ^ n) h32 hN (.pointer (some ⟨w.heap.size, 0, none⟩)) (fun x => l1.any (holdsB (x : Int))) W)
  have hmf : ∀ (fn : Fn) (first cap : Array Value) (w : World), (Instr.makeFunc fn first cap).run Try.prog w = .ok (.func fn first cap) w := fun _ _ _ _ => rfl
  have HL := Go.Lib.hid g2
  clear hN hr1 hc1 g2
  go_enter Try.func42, Try.ntmps42
  go_wp2_with (fail)
  refine (HC.out _ (fun k W hk hb => sum1_calls A1 c1 l1 k w.heap.size W ?_ HL.out ?_ ?_)).mono ?_
  ·exact Kd.C_below (Kd.C_below (Kd.C_below HCR.out (below_alloc (Below.refl _ _) _)) (below_alloc (Below.refl _ _) _)) hb
  ·have := hb.size
   simp at this
   omega
  ·exact pw_cell_below hb (by go_simp)
  rintro e w2 ⟨rfl, hb⟩
  have B0 : w2.heap[w.heap.size + 1]? = some (.cells #[.int .i64 0, .int .i64 0] 25 (0, 0)) := blk_below (by simpa using blk_new (w.alloc (.cells #[.slice A1 l1.length c1] 27)) (.cells #[.int .i64 0, .int .i64 0] 25)) hb
  have f0 : w2.frozen? ⟨w.heap.size + 1, 0, none⟩ = false := blk_frozen B0 0
  have f1 : w2.frozen? ⟨w.heap.size + 1, 1, none⟩ = false := blk_frozen B0 1
  have d0 : w2.cell? ⟨w.heap.size + 1, 0, none⟩ = some (.int .i64 0) := blk_cell B0 0
  have d1 : w2.cell? ⟨w.heap.size + 1, 1, none⟩ = some (.int .i64 0) := blk_cell B0 1
  go_wp2
  refine bodyPost_ret (results_cell_row rfl _ _ (w.heap.size + 1) 25 #[.int .i64 (n : Int), .int .i64 (wordOf (fun x => l1.any (holdsB (x : Int))) (2 ^ n) : Nat)] (0, 0) _ rfl ?_ Try.underlying25 rfl (by kernel_rfl)) rfl ⟨rfl, ?_⟩
  ·exact blk_put (blk_put (cs' := #[.int .i64 (n : Int), .int .i64 0]) B0 0 _ rfl) 1 _ rfl
  ·exact below_set (below_set (below_then (((Below.refl _ _).alloc (Nat.le_refl _) _).alloc (by simp) _) (by simp; omega) hb) (by omega)) (by omega)
 ·cases h
end Go.Proofs.Ytfiejicdlaknnaa.P
namespace Go.Proofs.Ytfiejicdlaknnaa.P
set_option linter.unusedVariables false
set_option linter.unusedSimpArgs false
open Go.RowKit Go.Proofs.Ytfiejicdlaknnaa.Bits Go.Proofs.YtfiejicdlaknnaaW.PrintWords Go.Proofs.YtfiejicdlaknnaaW.PrintLast Go.Proofs.YtfiejicdlaknnaaW.PrintMore
def isTmB (n : Int) (t : S33) : Bool := (impl_IsTerm.f n t.f0 t.f1).getD false
def noTmB (n : Int) (t : S33) : Bool := !isTmB n t
set_option maxHeartbeats 400000 in
theorem are1_calls (n : Int) (t : S33) (b : Nat) (W : World) (hc : W.cell? ⟨b, 0, none⟩ = some (.int .i64 n)) (hb : b < W.heap.size) (ht : (impl_IsTerm.f n t.f0 t.f1).isSome = true) :
  Calls Try.prog 69 #[.agg #[.int .i64 t.f0, .int .i64 t.f1], .pointer (some ⟨b, 0, none⟩)] W fun e w' => e = .returned (.bool (noTmB n t)) ∧ Below W.heap.size W w' := by
 have hne : b ≠ W.heap.size := by omega
 obtain ⟨r, hr⟩ := Option.isSome_iff_exists.mp ht
 have e : noTmB n t = !r := by
  unfold noTmB isTmB
  rw [hr]
  rfl
 rw [e]
 have HH := Go.Lib.hid hr
 clear ht hr e
 generalize t.f0 = m at *
 generalize t.f1 = v at *
 go_enter Try.func69, Try.ntmps69
 go_wp2_with (go_at_call 21; refine (impl_IsTerm.calls n m v r _ HH.out).mono ?_; rintro e w' ⟨rfl, hb⟩)
 go_ret
 exact ⟨rfl, below_then (below_alloc (Below.refl _ _) _) (by simp) hb⟩
def impl_areTerms.f (a0 : Int) (l1 : List S33) : Option Bool := if 0 ≤ a0 ∧ a0 ≤ 5 then (if l1.length ≤ 1152921504606846976 ∧ (l1.all fun t => (impl_IsTerm.f a0 t.f0 t.f1).isSome) = true then some (!l1.any (noTmB a0)) else none) else some false
set_option maxHeartbeats 1000000 in
set_option maxRecDepth 100000 in
theorem impl_areTerms.calls (a0 : Int) (A1 : Option Addr) (c1 : Nat) (l1 : List S33) (r : Bool) (w : World) (hr1 : Kd.C k33 w A1 l1.length l1) (hc1 : l1.length ≤ c1) (h : impl_areTerms.f a0 l1 = some r) :
  Calls Try.prog 46 #[.int .i64 a0, .slice A1 l1.length c1] w fun e w' => e = .returned (.bool r) ∧ Below w.heap.size w w' := by
 have hmf : ∀ (fn : Fn) (first cap : Array Value) (w : World), (Instr.makeFunc fn first cap).run Try.prog w = .ok (.func fn first cap) w := fun _ _ _ _ => rfl
 unfold impl_areTerms.f at h
 split at h
 ·rename_i hh
  obtain ⟨g0, g1⟩ := hh
  split at h
  ·rename_i hh
   obtain ⟨g2, g3⟩ := hh
   have hb0 : impl_isBits.f a0 = some true := by
    unfold impl_isBits.f
    rw [if_pos (by omega)]
    simp [g1]
   have HB0 := Go.Lib.hid hb0
   obtain rfl := Option.some.inj h
   have hB1 : Below w.heap.size w (w.alloc (.cells #[.int .i64 a0] 3)) := below_alloc (Below.refl _ _) _
   have HC := Go.Lib.hid (fun (W : World) (hW : Below (w.alloc (.cells #[.int .i64 a0] 3)).heap.size (w.alloc (.cells #[.int .i64 a0] 3)) W) => containsFunc_calls 69 (.pointer (some ⟨w.heap.size, 0, none⟩)) (noTmB a0) (fun args w => enters_of Try.func69 (by kernel_rfl) rfl args w) A1 c1 l1 W (Kd.C_below (Kd.C_below hr1 hB1) hW) g2 (by
    intro t W1 ht hb1
    have hWW := below_then hW hW.size hb1
    refine are1_calls a0 t w.heap.size W1 ?_ ?_ ?_
    ·exact pw_cell_below hWW (by go_simp)
    ·have := hWW.size
     simp at this
     omega
    ·exact List.all_eq_true.mp g3 t ht))
   have HB1 := Go.Lib.hid hB1
   clear hr1 hc1 hb0 hB1 g3 h
   generalize l1.any (noTmB a0) = q at *
   go_enter Try.func46, Try.ntmps46
   go_wp2_with (first | (go_at_call 50; refine (impl_isBits.calls a0 true _ HB0.out).mono ?_; rintro e w' ⟨rfl, ⟨nd, rfl⟩⟩) | (go_at_call 66; refine (HC.out _ (pw_below_drewN (Below.refl _ _) _)).mono ?_; rintro e w' ⟨rfl, hb⟩))
   go_ret
   exact ⟨rfl, below_then (pw_below_drewN HB1.out _) (by simp) hb⟩
  ·cases h
 ·rename_i hh
  obtain rfl := Option.some.inj h
  have hb0 : impl_isBits.f a0 = some false := by
   unfold impl_isBits.f
   split
   ·rw [decide_eq_false (by omega)]
   ·rfl
  have HB0 := Go.Lib.hid hb0
  clear h hh hr1 hc1 hb0
  go_enter Try.func46, Try.ntmps46
  go_wp2_with (first | (go_at_call 50; refine (impl_isBits.calls a0 false _ HB0.out).mono ?_; rintro e w' ⟨rfl, ⟨nd, rfl⟩⟩))
  go_ret
  exact ⟨rfl, pw_below_drewN (below_alloc (Below.refl _ _) _) _⟩
end Go.Proofs.Ytfiejicdlaknnaa.P

namespace Go.Proofs.Ytfiejicdlaknnaa.P
open Go.RowKit Go.Proofs.YtfiejicdlaknnaaW.PrintWords Go.Proofs.YtfiejicdlaknnaaW.PrintLast Go.Proofs.YtfiejicdlaknnaaW.PrintMore
attribute [local go_sem] max2_int min2_int max_two min_two max_three min_three max_four min_four   -- for this text's walks alone
set_option linter.unusedVariables false
set_option linter.unusedSimpArgs false

attribute [local go_sem] fld25_0 fld25_1
/-! ### impl_TableOfTerms: function 15 -/
def impl_TableOfTerms.f (a0 : Int) (l1 : List (S33)) : Option (Int × Int × Bool) := (impl_areTerms.f a0 l1).bind fun t371 => (if t371 = true then ((impl_sumOf.f a0 l1).bind fun bt372 => (some (bt372.1, bt372.2, true))) else (some (0, 0, false)))
set_option maxHeartbeats 8000000 in
set_option maxRecDepth 100000 in
theorem impl_TableOfTerms.calls (a0 : Int) (A1 : Option Addr) (c1 : Nat) (l1 : List (S33)) (r1 : Int) (r2 : Int) (r3 : Bool) (w : World) (hr1 : Kd.C k33 w A1 l1.length l1) (hc1 : l1.length ≤ c1) (h : impl_TableOfTerms.f a0 l1 = some (r1, r2, r3)) :
  Calls Try.prog 15 #[.int .i64 a0, .slice A1 l1.length c1] w fun e w' => e = .returned (.tuple #[.agg #[.int .i64 r1, .int .i64 r2], .bool r3]) ∧ Below w.heap.size w w' := by
 have hu25 := Try.underlying25
 have HR1 := zA hr1
 have HC1 := zA hc1
 clear hr1 hc1
 have HB := zA (Below.refl w.heap.size w)
 have H := h
 unfold impl_TableOfTerms.f at H
 clear h
 replace H := Option.bind_eq_some_iff.mp H
 obtain ⟨t371, A30, H⟩ := H
 replace H : (if t371 = true then ((impl_sumOf.f a0 l1).bind fun bt372 => (some (bt372.1, bt372.2, true))) else (some (0, 0, false))) = some (r1, r2, r3) := H
 have A3 := zA A30
 clear A30
 by_cases c4 : t371 = true
 ·subst c4
  have H1 : ((impl_sumOf.f a0 l1).bind fun bt372 => (some (bt372.1, bt372.2, true))) = some (r1, r2, r3) := by rw [if_pos rfl] at H; exact H
  clear H
  have H := H1
  clear H1
  replace H := Option.bind_eq_some_iff.mp H
  obtain ⟨⟨t372, t373⟩, A50, H⟩ := H
  replace H : (some (t372, t373, true)) = some (r1, r2, r3) := H
  have A5 := zA A50
  clear A50
  simp only [Option.some.injEq, Prod.mk.injEq] at H
  obtain ⟨rfl, rfl, rfl⟩ := H
  go_enter Try.func15, Try.ntmps15
  go_wp2_with (first | ((with_reducible refine gate_dst (N := 4) rfl ?_); refine box_event ?hg (N := 4) ?hd (cs := #[.int .i64 0, .int .i64 0]) (t := 25) ?hr ?_; (case hd => rfl); (case hg => rfl); (case hr => exact zH); intro gb370 hg w6 hbox hb; have BK370 := zA (hbox); have GW370 := zg HB hg; have GE370 := zg HB hg; replace HB := zA (below_step (zB HB) hb); clear hb hbox hg) | ((with_reducible refine gate_callee (f := 46) rfl ?_); refine goesL_ (some 8) rfl rfl Try.func46 (by kernel_rfl) rfl #[.int .i64 a0, .slice A1 l1.length c1] rfl zM ?_; (with_reducible refine (impl_areTerms.calls a0 _ _ l1 true _ ?side1 ?side2 A3.out).mono ?_); (case side1 => exact zC (Kd.C_below HR1.out HB.out)); (case side2 => exact HC1.out); rintro e w7 ⟨rfl, hb⟩; refine ⟨_, rfl, ?_⟩; replace BK370 := zb BK370 hb; replace HB := zA (below_step (zB1 HB GE370) hb); (try clear hb); (try clear hb2); (try clear hk); (try clear hi)) | ((with_reducible refine gate_callee (f := 42) rfl ?_); refine goesL_ (some 13) rfl rfl Try.func42 (by kernel_rfl) rfl #[.int .i64 a0, .slice A1 l1.length c1] rfl zM ?_; (with_reducible refine (impl_sumOf.calls a0 _ _ l1 t372 t373 _ ?side1 ?side2 A5.out).mono ?_); (case side1 => exact zC (Kd.C_below HR1.out HB.out)); (case side2 => exact HC1.out); rintro e w8 ⟨rfl, hb⟩; refine ⟨_, rfl, ?_⟩; replace BK370 := zb BK370 hb; replace HB := zA (below_step (zB1 HB GE370) hb); (try clear hb); (try clear hb2); (try clear hk); (try clear hi); have hcz9_0 := zc0 BK370; have hcz9_1 := zc1 BK370; have hfz9_0 := blk_frozen BK370.out 0; have hfz9_1 := blk_frozen BK370.out 1))
  refine bodyPost_ret (results_ct rfl _ _ gb370 25 #[.int .i64 t372, .int .i64 t373] (0, 0) _ rfl (zP BK370) Try.underlying25 rfl (by kernel_rfl)) rfl ?_
  exact ⟨zE, zB1 HB GE370⟩
 ·replace c4 := Bool.eq_false_iff.mpr c4
  subst c4
  have H1 : (some (0, 0, false)) = some (r1, r2, r3) := by rw [if_neg (show ¬ (false = true) by decide)] at H; exact H
  clear H
  have H := H1
  clear H1
  simp only [Option.some.injEq, Prod.mk.injEq] at H
  obtain ⟨rfl, rfl, rfl⟩ := H
  go_enter Try.func15, Try.ntmps15
  go_wp2_with (first | ((with_reducible refine gate_dst (N := 4) rfl ?_); refine box_event ?hg (N := 4) ?hd (cs := #[.int .i64 0, .int .i64 0]) (t := 25) ?hr ?_; (case hd => rfl); (case hg => rfl); (case hr => exact zH); intro gb370 hg w10 hbox hb; have BK370 := zA (hbox); have GW370 := zg HB hg; have GE370 := zg HB hg; replace HB := zA (below_step (zB HB) hb); clear hb hbox hg) | ((with_reducible refine gate_callee (f := 46) rfl ?_); refine goesL_ (some 8) rfl rfl Try.func46 (by kernel_rfl) rfl #[.int .i64 a0, .slice A1 l1.length c1] rfl zM ?_; (with_reducible refine (impl_areTerms.calls a0 _ _ l1 false _ ?side1 ?side2 A3.out).mono ?_); (case side1 => exact zC (Kd.C_below HR1.out HB.out)); (case side2 => exact HC1.out); rintro e w11 ⟨rfl, hb⟩; refine ⟨_, rfl, ?_⟩; replace BK370 := zb BK370 hb; replace HB := zA (below_step (zB1 HB GE370) hb); (try clear hb); (try clear hb2); (try clear hk); (try clear hi); have hcz12_0 := zc0 BK370; have hcz12_1 := zc1 BK370; have hfz12_0 := blk_frozen BK370.out 0; have hfz12_1 := blk_frozen BK370.out 1))
  refine bodyPost_ret (results_ct rfl _ _ gb370 25 #[.int .i64 0, .int .i64 0] (0, 0) _ rfl (zP BK370) Try.underlying25 rfl (by kernel_rfl)) rfl ?_
  exact ⟨zE, zB1 HB GE370⟩

/-! ### spec_TableOfTerms: function 27 -/
def spec_TableOfTerms.l0 : Nat → Int → List (S33) → Int → Int → Option (Int × Int × Bool)
 | 0, _, _, _, _ => none
 | k + 1, x0, x1, x6, x7 => if x7 < (x1.length : Int) then (if 0 ≤ x7 then ((spec_IsTerm.f x0 ((rd_T33 x1 x7).f0) ((rd_T33 x1 x7).f1)).bind fun t581 => (if t581 = true then ((spec_l6Word.f k x0 ((rd_T33 x1 x7).f0) ((rd_T33 x1 x7).f1)).bind fun t583 => (spec_TableOfTerms.l0 k x0 x1 (Go.bits .or .i64 x6 t583) (wrap64 (x7 + 1)))) else (some (0, 0, false)))) else (none)) else ((spec_l1In.f x0 0 5).bind fun t579 => (if t579 = true then (some (x0, x6, true)) else (some (0, 0, false))))
def spec_TableOfTerms.f (k : Nat) (a0 : Int) (l1 : List (S33)) : Option (Int × Int × Bool) := spec_TableOfTerms.l0 k a0 l1 0 0
theorem spec_TableOfTerms.mono_l : ∀ k, (∀ y0 y1 y2 y3, LeO (spec_TableOfTerms.l0 k y0 y1 y2 y3) (spec_TableOfTerms.l0 (k + 1) y0 y1 y2 y3))
 | 0 => fun _ _ _ _ r h => by simp [spec_TableOfTerms.l0] at h
 | k + 1 => by
  have ih0 := spec_TableOfTerms.mono_l k
  ·intro y0 y1 y2 y3
   unfold spec_TableOfTerms.l0
   repeat' first
   | (with_reducible exact ih0 _ _ _ _)
   | (with_reducible exact spec_l6Word.mono _ _ _ _)
   | (with_reducible exact LeO.refl _)
   | (with_reducible exact LeO.none _)
   | (with_reducible refine LeO.ite ?_ ?_)
   | (with_reducible refine LeO.bind ?_ (fun _ => ?_))
   | exact ih0 _ _ _ _
   | exact spec_l6Word.mono _ _ _ _
   | exact LeO.none _
   | refine LeO.ite ?_ ?_
   | refine LeO.bind ?_ (fun _ => ?_)
theorem spec_TableOfTerms.mono : ∀ a0 a1 k, LeO (spec_TableOfTerms.f k a0 a1) (spec_TableOfTerms.f (k + 1) a0 a1) := by
 intro a0 a1 k
 have ih0 := spec_TableOfTerms.mono_l k
 unfold spec_TableOfTerms.f
 repeat' first
   | (with_reducible exact ih0 _ _ _ _)
   | (with_reducible exact spec_l6Word.mono _ _ _ _)
   | (with_reducible exact LeO.refl _)
   | (with_reducible exact LeO.none _)
   | (with_reducible refine LeO.ite ?_ ?_)
   | (with_reducible refine LeO.bind ?_ (fun _ => ?_))
   | exact ih0 _ _ _ _
   | exact spec_l6Word.mono _ _ _ _
   | exact LeO.none _
   | refine LeO.ite ?_ ?_
   | refine LeO.bind ?_ (fun _ => ?_)
set_option maxHeartbeats 8000000 in
set_option maxRecDepth 100000 in
theorem spec_TableOfTerms.calls (k : Nat) (a0 : Int) (A1 : Option Addr) (c1 : Nat) (l1 : List (S33)) (r1 : Int) (r2 : Int) (r3 : Bool) (w : World) (hr1 : Kd.C k33 w A1 l1.length l1) (hc1 : l1.length ≤ c1) (h : spec_TableOfTerms.f k a0 l1 = some (r1, r2, r3)) :
  Calls Try.prog 27 #[.int .i64 a0, .slice A1 l1.length c1] w fun e w' => e = .returned (.tuple #[.agg #[.int .i64 r1, .int .i64 r2], .bool r3]) ∧ Below w.heap.size w w' := by
 have hu25 := Try.underlying25
 have hu33 := Try.underlying33
 have HR1 := zA hr1
 have HC1 := zA hc1
 clear hr1 hc1
 have HB := zA (Below.refl w.heap.size w)
 have H : (spec_TableOfTerms.l0 k a0 l1 0 0) = some (r1, r2, r3) := h
 clear h
 have H' := zA H
 clear H
 go_enter Try.func27, Try.ntmps27
 go_wp2_with (first | ((with_reducible refine gate_dst (N := 4) rfl ?_); refine box_event ?hg (N := 4) ?hd (cs := #[.int .i64 0, .int .i64 0]) (t := 25) ?hr ?_; (case hd => rfl); (case hg => rfl); (case hr => exact zH); intro gb578 hg w3 hbox hb; have BK578 := zA (hbox); have GW578 := zg HB hg; have GE578 := zg HB hg; replace HB := zA (below_step (zB HB) hb); clear hb hbox hg))
 go_loopg [6, 7] k (fun kq v6 v7 w' => ∃ (x6_1 : Int) (x7_1 : Int) (x579000_1 : Int) (x579001_1 : Int), v6 = .int .i64 x6_1 ∧ v7 = .int .i64 x7_1 ∧ Aside0 (spec_TableOfTerms.l0 kq a0 l1 x6_1 x7_1 = some (r1, r2, r3)) ∧ Aside0 (kq ≤ k) ∧ Aside0 (w'.heap[gb578]? = some (.cells #[.int .i64 x579000_1, .int .i64 x579001_1] 25 (0, 0))) ∧ Aside0 (Below w.heap.size w w'))
 case atStart => exact ⟨(0), (0), (0), (0), zS, zS, H', ⟨Nat.le_refl _⟩, ⟨zD BK578⟩, ⟨zB1 HB GE578⟩⟩
 case round =>
  clear H'
  try clear c1
  obtain ⟨x6_1, x7_1, x579000_1, x579001_1, rfl, rfl, HA, HK1, BK578, HB⟩ := hrel
  cases gk with
  | zero => exact absurd HA.out (by simp [spec_TableOfTerms.l0])
  | succ k1 =>
   have H := HA.out
   clear HA
   simp only [spec_TableOfTerms.l0] at H
   by_cases c4 : x7_1 < (l1.length : Int)
   ·rw [if_pos c4] at H
    have c4b0 : decide (x7_1 < (l1.length : Int)) = true := decide_eq_true c4
    clear c4
    by_cases c5 : 0 ≤ x7_1
    ·rw [if_pos c5] at H
     have c5b0 : decide (0 ≤ x7_1) = true := decide_eq_true c5
     clear c5
     replace H := Option.bind_eq_some_iff.mp H
     obtain ⟨t581, A60, H⟩ := H
     replace H : (if t581 = true then ((spec_l6Word.f k1 a0 ((rd_T33 l1 x7_1).f0) ((rd_T33 l1 x7_1).f1)).bind fun t583 => (spec_TableOfTerms.l0 k1 a0 l1 (Go.bits .or .i64 x6_1 t583) (wrap64 (x7_1 + 1)))) else (some (0, 0, false))) = some (r1, r2, r3) := H
     have A6 := zA A60
     clear A60
     by_cases c7 : t581 = true
     ·subst c7
      have H1 : ((spec_l6Word.f k1 a0 ((rd_T33 l1 x7_1).f0) ((rd_T33 l1 x7_1).f1)).bind fun t583 => (spec_TableOfTerms.l0 k1 a0 l1 (Go.bits .or .i64 x6_1 t583) (wrap64 (x7_1 + 1)))) = some (r1, r2, r3) := by rw [if_pos rfl] at H; exact H
      clear H
      have H := H1
      clear H1
      replace H := Option.bind_eq_some_iff.mp H
      obtain ⟨t583, A80, H⟩ := H
      replace H : (spec_TableOfTerms.l0 k1 a0 l1 (Go.bits .or .i64 x6_1 t583) (wrap64 (x7_1 + 1))) = some (r1, r2, r3) := H
      have A8 := zA A80
      clear A80
      have H' := zA H
      clear H
      have p580 : 0 ≤ (x7_1 : Int) := of_decide_eq_true (by first | (with_reducible assumption) | assumption)
      have q580 : x7_1 < (l1.length : Int) := of_decide_eq_true (by first | (with_reducible assumption) | assumption)
      obtain ⟨ad580, e580, hx580_0, hx580_1⟩ := at_T33 HR1.out x7_1 p580 q580
      cases e580
      replace hx580_0 := (HB.out.cell (World.block_lt_of_cell? w _ hx580_0)).trans hx580_0
      replace hx580_1 := (HB.out.cell (World.block_lt_of_cell? w _ hx580_1)).trans hx580_1
      replace p580 := eq_true p580
      replace q580 := eq_true q580
      go_wp2_with (first | ((with_reducible refine gate_callee (f := 20) rfl ?_); refine goesL_ (some 19) rfl rfl Try.func20 (by kernel_rfl) rfl #[.int .i64 a0, .agg #[.int .i64 ((rd_T33 l1 x7_1).f0), .int .i64 ((rd_T33 l1 x7_1).f1)]] rfl zM ?_; (with_reducible refine (spec_IsTerm.calls a0 ((rd_T33 l1 x7_1).f0) ((rd_T33 l1 x7_1).f1) true _ A6.out).mono ?_); rintro e w9 ⟨rfl, hb⟩; refine ⟨_, rfl, ?_⟩; replace BK578 := zb BK578 hb; replace HB := zA (below_step (zB1 HB GE578) hb); (try clear hb); (try clear hb2); (try clear hk); (try clear hi); have p582 : 0 ≤ (x7_1 : Int) := of_decide_eq_true (by first | (with_reducible assumption) | assumption); have q582 : x7_1 < (l1.length : Int) := of_decide_eq_true (by first | (with_reducible assumption) | assumption); obtain ⟨ad582, e582, hx582_0, hx582_1⟩ := at_T33 HR1.out x7_1 p582 q582; obtain rfl : ad580 = ad582 := (by injection e582); replace hx582_0 := (HB.out.cell (World.block_lt_of_cell? w _ hx582_0)).trans hx582_0; replace hx582_1 := (HB.out.cell (World.block_lt_of_cell? w _ hx582_1)).trans hx582_1; replace p582 := eq_true p582; replace q582 := eq_true q582) | ((with_reducible refine gate_callee (f := 43) rfl ?_); refine goesL_ (some 28) rfl rfl Try.func43 (by kernel_rfl) rfl #[.int .i64 a0, .agg #[.int .i64 ((rd_T33 l1 x7_1).f0), .int .i64 ((rd_T33 l1 x7_1).f1)]] rfl zM ?_; (with_reducible refine (spec_l6Word.calls k1 a0 ((rd_T33 l1 x7_1).f0) ((rd_T33 l1 x7_1).f1) t583 _ A8.out).mono ?_); rintro e w10 ⟨rfl, hb⟩; refine ⟨_, rfl, ?_⟩; replace BK578 := zb BK578 hb; replace HB := zA (below_step (zB1 HB GE578) hb); (try clear hb); (try clear hb2); (try clear hk); (try clear hi)))
      go_roundg k1
      case measure => have := HK1.out; omega
      case rel => exact ⟨(Go.bits .or .i64 x6_1 t583), (wrap64 (x7_1 + 1)), (x579000_1), (x579001_1), zS, zS, H', ⟨by have := HK1.out; omega⟩, ⟨zD BK578⟩, ⟨zB1 HB GE578⟩⟩
     ·replace c7 := Bool.eq_false_iff.mpr c7
      subst c7
      have H1 : (some (0, 0, false)) = some (r1, r2, r3) := by rw [if_neg (show ¬ (false = true) by decide)] at H; exact H
      clear H
      have H := H1
      clear H1
      simp only [Option.some.injEq, Prod.mk.injEq] at H
      obtain ⟨rfl, rfl, rfl⟩ := H
      have p580 : 0 ≤ (x7_1 : Int) := of_decide_eq_true (by first | (with_reducible assumption) | assumption)
      have q580 : x7_1 < (l1.length : Int) := of_decide_eq_true (by first | (with_reducible assumption) | assumption)
      obtain ⟨ad580, e580, hx580_0, hx580_1⟩ := at_T33 HR1.out x7_1 p580 q580
      cases e580
      replace hx580_0 := (HB.out.cell (World.block_lt_of_cell? w _ hx580_0)).trans hx580_0
      replace hx580_1 := (HB.out.cell (World.block_lt_of_cell? w _ hx580_1)).trans hx580_1
      replace p580 := eq_true p580
      replace q580 := eq_true q580
      go_wp2_with (first | ((with_reducible refine gate_callee (f := 20) rfl ?_); refine goesL_ (some 19) rfl rfl Try.func20 (by kernel_rfl) rfl #[.int .i64 a0, .agg #[.int .i64 ((rd_T33 l1 x7_1).f0), .int .i64 ((rd_T33 l1 x7_1).f1)]] rfl zM ?_; (with_reducible refine (spec_IsTerm.calls a0 ((rd_T33 l1 x7_1).f0) ((rd_T33 l1 x7_1).f1) false _ A6.out).mono ?_); rintro e w11 ⟨rfl, hb⟩; refine ⟨_, rfl, ?_⟩; replace BK578 := zb BK578 hb; replace HB := zA (below_step (zB1 HB GE578) hb); (try clear hb); (try clear hb2); (try clear hk); (try clear hi); have hcz12_0 := zc0 BK578; have hcz12_1 := zc1 BK578; have hfz12_0 := blk_frozen BK578.out 0; have hfz12_1 := blk_frozen BK578.out 1))
      refine bodyPost_ret (results_ct rfl _ _ gb578 25 #[.int .i64 0, .int .i64 0] (0, 0) _ rfl (zP BK578) Try.underlying25 rfl (by kernel_rfl)) rfl ?_
      exact ⟨zE, zB1 HB GE578⟩
    ·rw [if_neg c5] at H
     exact absurd H (by simp)
   ·rw [if_neg c4] at H
    have c4b0 : decide (x7_1 < (l1.length : Int)) = false := decide_eq_false c4
    clear c4
    replace H := Option.bind_eq_some_iff.mp H
    obtain ⟨t579, A130, H⟩ := H
    replace H : (if t579 = true then (some (a0, x6_1, true)) else (some (0, 0, false))) = some (r1, r2, r3) := H
    have A13 := zA A130
    clear A130
    by_cases c14 : t579 = true
    ·subst c14
     have H1 : (some (a0, x6_1, true)) = some (r1, r2, r3) := by rw [if_pos rfl] at H; exact H
     clear H
     have H := H1
     clear H1
     simp only [Option.some.injEq, Prod.mk.injEq] at H
     obtain ⟨rfl, rfl, rfl⟩ := H
     go_wp2_with (first | ((with_reducible refine gate_callee (f := 49) rfl ?_); refine goesL_ (some 31) rfl rfl Try.func49 (by kernel_rfl) rfl #[.int .i64 a0, .int .i64 0, .int .i64 5] rfl zM ?_; (with_reducible refine (spec_l1In.calls a0 0 5 true _ A13.out).mono ?_); rintro e w' ⟨rfl, ⟨nd, rfl⟩⟩; refine ⟨_, rfl, ?_⟩; (try (rw [drewN_self wr]; generalize hq_ : World.drewN wr _ = wr; have n0_ : Aside0 (wr.heap[gb578]? = some (.cells #[.int .i64 x579000_1, .int .i64 x579001_1] 25 (0, 0))) := ⟨by rw [← hq_]; exact (zD BK578)⟩; have n1_ : Aside0 (Below w.heap.size w wr) := ⟨by rw [← hq_]; exact (zB1 HB GE578)⟩; clear BK578 HB hq_; have BK578 := n0_; have HB := n1_; clear n0_ n1_)); have hcz15_0 := zc0 BK578; have hcz15_1 := zc1 BK578; have hfz15_0 := blk_frozen BK578.out 0; have hfz15_1 := blk_frozen BK578.out 1))
     refine bodyPost_ret (results_ct rfl _ _ gb578 25 #[.int .i64 a0, .int .i64 x6_1] (0, 0) _ rfl (zP BK578) Try.underlying25 rfl (by kernel_rfl)) rfl ?_
     exact ⟨zE, zB1 HB GE578⟩
    ·replace c14 := Bool.eq_false_iff.mpr c14
     subst c14
     have H1 : (some (0, 0, false)) = some (r1, r2, r3) := by rw [if_neg (show ¬ (false = true) by decide)] at H; exact H
     clear H
     have H := H1
     clear H1
     simp only [Option.some.injEq, Prod.mk.injEq] at H
     obtain ⟨rfl, rfl, rfl⟩ := H
     go_wp2_with (first | ((with_reducible refine gate_callee (f := 49) rfl ?_); refine goesL_ (some 31) rfl rfl Try.func49 (by kernel_rfl) rfl #[.int .i64 a0, .int .i64 0, .int .i64 5] rfl zM ?_; (with_reducible refine (spec_l1In.calls a0 0 5 false _ A13.out).mono ?_); rintro e w' ⟨rfl, ⟨nd, rfl⟩⟩; refine ⟨_, rfl, ?_⟩; (try (rw [drewN_self wr]; generalize hq_ : World.drewN wr _ = wr; have n0_ : Aside0 (wr.heap[gb578]? = some (.cells #[.int .i64 x579000_1, .int .i64 x579001_1] 25 (0, 0))) := ⟨by rw [← hq_]; exact (zD BK578)⟩; have n1_ : Aside0 (Below w.heap.size w wr) := ⟨by rw [← hq_]; exact (zB1 HB GE578)⟩; clear BK578 HB hq_; have BK578 := n0_; have HB := n1_; clear n0_ n1_)); have hcz16_0 := zc0 BK578; have hcz16_1 := zc1 BK578; have hfz16_0 := blk_frozen BK578.out 0; have hfz16_1 := blk_frozen BK578.out 1))
     refine bodyPost_ret (results_ct rfl _ _ gb578 25 #[.int .i64 0, .int .i64 0] (0, 0) _ rfl (zP BK578) Try.underlying25 rfl (by kernel_rfl)) rfl ?_
     exact ⟨zE, zB1 HB GE578⟩

end Go.Proofs.Ytfiejicdlaknnaa.P

namespace Go.Proofs.Ytfiejicdlaknnaa.P
open Go.RowKit Go.Proofs.YtfiejicdlaknnaaW.PrintWords Go.Proofs.YtfiejicdlaknnaaW.PrintLast Go.Proofs.YtfiejicdlaknnaaW.PrintMore
attribute [local go_sem] max2_int min2_int max_two min_two max_three min_three max_four min_four   -- for this text's walks alone
set_option linter.unusedVariables false
set_option linter.unusedSimpArgs false

attribute [local go_sem] fld25_0 fld25_1
/-! ### impl_FormatTerm: function 17 -/
def impl_FormatTerm.l0 : Nat → List Int → Int → Int → Int → Int → Option (ByteArray)
 | 0, _, _, _, _, _ => none
 | k + 1, x5, x11, x12, x415000, x415001 => if x12 < x11 then (if 0 ≤ x12 then (if (Go.bits .and .i64 (shr .i64 x415000 x12) 1) = 0 then (impl_FormatTerm.l0 k x5 x11 (wrap64 (x12 + 1)) x415000 x415001) else (if (Go.bits .and .i64 (shr .i64 x415001 x12) 1) = 0 then (if x5.length < 140737488355328 then ((some (x5 ++ [33] : List Int)).bind fun y416 => (if y416.length < 140737488355328 then (impl_FormatTerm.l0 k (y416 ++ [(97 + x12) % 256]) x11 (wrap64 (x12 + 1)) x415000 x415001) else (none))) else (none)) else (if x5.length < 140737488355328 then (impl_FormatTerm.l0 k (x5 ++ [(97 + x12) % 256]) x11 (wrap64 (x12 + 1)) x415000 x415001) else (none)))) else (none)) else (if (x5.length : Int) = 0 then (some (⟨#[49]⟩ : ByteArray)) else (some (strOfNums x5)))
def impl_FormatTerm.f (k : Nat) (a0 : Int) (a1_0 : Int) (a1_1 : Int) : Option (ByteArray) := (impl_IsTerm.f a0 a1_0 a1_1).bind fun t415 => (if t415 = true then (impl_FormatTerm.l0 k ([] : List Int) a0 0 a1_0 a1_1) else (some (⟨#[]⟩ : ByteArray)))
theorem impl_FormatTerm.mono_l : ∀ k, (∀ y0 y1 y2 y3 y4, LeO (impl_FormatTerm.l0 k y0 y1 y2 y3 y4) (impl_FormatTerm.l0 (k + 1) y0 y1 y2 y3 y4))
 | 0 => fun _ _ _ _ _ r h => by simp [impl_FormatTerm.l0] at h
 | k + 1 => by
  have ih0 := impl_FormatTerm.mono_l k
  ·intro y0 y1 y2 y3 y4
   unfold impl_FormatTerm.l0
   repeat' first
   | (with_reducible exact ih0 _ _ _ _ _)
   | (with_reducible exact LeO.refl _)
   | (with_reducible exact LeO.none _)
   | (with_reducible refine LeO.ite ?_ ?_)
   | (with_reducible refine LeO.bind ?_ (fun _ => ?_))
   | exact ih0 _ _ _ _ _
   | exact LeO.none _
   | refine LeO.ite ?_ ?_
   | refine LeO.bind ?_ (fun _ => ?_)
theorem impl_FormatTerm.mono : ∀ a0 a1 a2 k, LeO (impl_FormatTerm.f k a0 a1 a2) (impl_FormatTerm.f (k + 1) a0 a1 a2) := by
 intro a0 a1 a2 k
 have ih0 := impl_FormatTerm.mono_l k
 unfold impl_FormatTerm.f
 repeat' first
   | (with_reducible exact ih0 _ _ _ _ _)
   | (with_reducible exact LeO.refl _)
   | (with_reducible exact LeO.none _)
   | (with_reducible refine LeO.ite ?_ ?_)
   | (with_reducible refine LeO.bind ?_ (fun _ => ?_))
   | exact ih0 _ _ _ _ _
   | exact LeO.none _
   | refine LeO.ite ?_ ?_
   | refine LeO.bind ?_ (fun _ => ?_)
set_option maxHeartbeats 8000000 in
set_option maxRecDepth 100000 in
theorem impl_FormatTerm.calls (k : Nat) (a0 : Int) (a1_0 : Int) (a1_1 : Int) (r : ByteArray) (w : World) (h : impl_FormatTerm.f k a0 a1_0 a1_1 = some r) :
  Calls Try.prog 17 #[.int .i64 a0, .agg #[.int .i64 a1_0, .int .i64 a1_1]] w fun e w' => e = .returned (.string r) ∧ Below w.heap.size w w' := by
 have hu33 := Try.underlying33
 have HB := zA (Below.refl w.heap.size w)
 have H := h
 unfold impl_FormatTerm.f at H
 clear h
 replace H := Option.bind_eq_some_iff.mp H
 obtain ⟨t415, A30, H⟩ := H
 replace H : (if t415 = true then (impl_FormatTerm.l0 k ([] : List Int) a0 0 a1_0 a1_1) else (some (⟨#[]⟩ : ByteArray))) = some r := H
 have A3 := zA A30
 clear A30
 by_cases c4 : t415 = true
 ·subst c4
  have H1 : (impl_FormatTerm.l0 k ([] : List Int) a0 0 a1_0 a1_1) = some r := by rw [if_pos rfl] at H; exact H
  clear H
  have H := H1
  clear H1
  have H' := zA H
  clear H
  go_enter Try.func17, Try.ntmps17
  go_wp2_with (first | ((with_reducible refine gate_dst (N := 3) rfl ?_); refine box_event ?hg (N := 3) ?hd (cs := #[.int .i64 a1_0, .int .i64 a1_1]) (t := 33) ?hr ?_; (case hd => rfl); (case hg => rfl); (case hr => exact zH); intro gb414 hg w5 hbox hb; have BK414 := zA (hbox); have GW414 := zg HB hg; have GE414 := zg HB hg; replace HB := zA (below_step (zB HB) hb); clear hb hbox hg; have hcz6_0 := zc0 BK414; have hcz6_1 := zc1 BK414; have hfz6_0 := blk_frozen BK414.out 0; have hfz6_1 := blk_frozen BK414.out 1) | ((with_reducible refine gate_callee (f := 21) rfl ?_); refine goesL_ (some 9) rfl rfl Try.func21 (by kernel_rfl) rfl #[.int .i64 a0, .agg #[.int .i64 a1_0, .int .i64 a1_1]] rfl zM ?_; (with_reducible refine (impl_IsTerm.calls a0 a1_0 a1_1 true _ A3.out).mono ?_); rintro e w7 ⟨rfl, hb⟩; refine ⟨_, rfl, ?_⟩; replace BK414 := zb BK414 hb; replace HB := zA (below_step (zB1 HB GE414) hb); (try clear hb); (try clear hb2); (try clear hk); (try clear hi)))
  go_loopg [5, 12] k (fun kq v5 v12 w' => ∃ (x5_1 : List Int) (x12_1 : Int), v12 = .int .i64 x12_1 ∧ Aside0 (impl_FormatTerm.l0 kq x5_1 a0 x12_1 a1_0 a1_1 = some r) ∧ Aside0 (kq ≤ k) ∧ Aside0 (Kd.R (Kd.int .u8) 5 w' w.heap.size (fun _ => True) v5 x5_1) ∧ Aside0 (w'.heap[gb414]? = some (.cells #[.int .i64 a1_0, .int .i64 a1_1] 33 (0, 0))) ∧ Aside0 (Below w.heap.size w w'))
  case atStart => exact ⟨(([] : List Int)), (0), zS, H', ⟨Nat.le_refl _⟩, ⟨by first | exact Kd.R_nil _ _ _ _ _ | exact Kd.N_nil _ _ _ _ _ | exact Kd.V_nil _ _ _ _ _ | exact Kd.Q_nil _ _ _ _ _ | exact Kd.S_nil _ _ _ _ _⟩, ⟨zD BK414⟩, ⟨zB1 HB GE414⟩⟩
  case round =>
   clear H'
   try clear c4
   try clear hcz6_0
   try clear hcz6_1
   try clear hfz6_0
   try clear hfz6_1
   obtain ⟨x5_1, x12_1, rfl, HA, HK1, HO_5, BK414, HB⟩ := hrel
   cases gk with
   | zero => exact absurd HA.out (by simp [impl_FormatTerm.l0])
   | succ k1 =>
    have H := HA.out
    clear HA
    simp only [impl_FormatTerm.l0] at H
    by_cases c8 : x12_1 < a0
    ·rw [if_pos c8] at H
     have c8b0 : decide (x12_1 < a0) = true := decide_eq_true c8
     clear c8
     by_cases c9 : 0 ≤ x12_1
     ·rw [if_pos c9] at H
      have c9b0 := eq_true c9
      have c9b1 : decide (0 ≤ x12_1) = true := decide_eq_true c9
      clear c9
      obtain ⟨ji10, hji10⟩ : ∃ j_ : Int, (shr .i64 a1_0 x12_1) = j_ := ⟨_, rfl⟩
      replace H : (if (Go.bits .and .i64 (ji10) 1) = 0 then (impl_FormatTerm.l0 k1 x5_1 a0 (wrap64 (x12_1 + 1)) a1_0 a1_1) else (if (Go.bits .and .i64 (shr .i64 a1_1 x12_1) 1) = 0 then (if x5_1.length < 140737488355328 then ((some (x5_1 ++ [33] : List Int)).bind fun y416 => (if y416.length < 140737488355328 then (impl_FormatTerm.l0 k1 (y416 ++ [(97 + x12_1) % 256]) a0 (wrap64 (x12_1 + 1)) a1_0 a1_1) else (none))) else (none)) else (if x5_1.length < 140737488355328 then (impl_FormatTerm.l0 k1 (x5_1 ++ [(97 + x12_1) % 256]) a0 (wrap64 (x12_1 + 1)) a1_0 a1_1) else (none)))) = some r := by first | (rw [hji10] at H; exact H) | (simp only [hji10] at H ⊢; exact H)
      have hji10_ : (a1_0 / 2 ^ min x12_1.toNat 64) = ji10 := hji10
      have hji10z : x12_1 ≤ 64 → (a1_0 / 2 ^ x12_1.toNat) = ji10 := shr_small hji10
      by_cases c11 : (Go.bits .and .i64 (ji10) 1) = 0
      ·rw [if_pos c11] at H
       have c11b0 : ((Go.bits .and .i64 (ji10) 1) == 0) = true := beq_iff_eq.mpr c11
       have c11b1 : ((Go.bits .and .i64 (ji10) 1) != 0) = false := bne_eq_false_iff_eq.mpr c11
       clear c11
       have H' := zA H
       clear H
       have hcz12_0 := zc0 BK414
       have hcz12_1 := zc1 BK414
       have hfz12_0 := blk_frozen BK414.out 0
       have hfz12_1 := blk_frozen BK414.out 1
       go_wp2
       go_roundg k1
       case measure => have := HK1.out; omega
       case rel => exact ⟨(x5_1), (wrap64 (x12_1 + 1)), zS, H', ⟨by have := HK1.out; omega⟩, ⟨zR HO_5⟩, ⟨zD BK414⟩, ⟨zB1 HB GE414⟩⟩
      ·rw [if_neg c11] at H
       have c11b0 : ((Go.bits .and .i64 (ji10) 1) == 0) = false := beq_eq_false_iff_ne.mpr c11
       have c11b1 : ((Go.bits .and .i64 (ji10) 1) != 0) = true := bne_iff_ne.mpr c11
       have c13b0 := eq_true (of_decide_eq_true (by first | (with_reducible assumption) | assumption) : 0 ≤ x12_1)
       obtain ⟨ji14, hji14⟩ : ∃ j_ : Int, (shr .i64 a1_1 x12_1) = j_ := ⟨_, rfl⟩
       replace H : (if (Go.bits .and .i64 (ji14) 1) = 0 then (if x5_1.length < 140737488355328 then ((some (x5_1 ++ [33] : List Int)).bind fun y416 => (if y416.length < 140737488355328 then (impl_FormatTerm.l0 k1 (y416 ++ [(97 + x12_1) % 256]) a0 (wrap64 (x12_1 + 1)) a1_0 a1_1) else (none))) else (none)) else (if x5_1.length < 140737488355328 then (impl_FormatTerm.l0 k1 (x5_1 ++ [(97 + x12_1) % 256]) a0 (wrap64 (x12_1 + 1)) a1_0 a1_1) else (none))) = some r := by first | (rw [hji14] at H; exact H) | (simp only [hji14] at H ⊢; exact H)
       have hji14_ : (a1_1 / 2 ^ min x12_1.toNat 64) = ji14 := hji14
       have hji14z : x12_1 ≤ 64 → (a1_1 / 2 ^ x12_1.toNat) = ji14 := shr_small hji14
       by_cases c15 : (Go.bits .and .i64 (ji14) 1) = 0
       ·rw [if_pos c15] at H
        have c15b0 : ((Go.bits .and .i64 (ji14) 1) == 0) = true := beq_iff_eq.mpr c15
        have c15b1 : ((Go.bits .and .i64 (ji14) 1) != 0) = false := bne_eq_false_iff_eq.mpr c15
        clear c15
        by_cases c16 : x5_1.length < 140737488355328
        ·rw [if_pos c16] at H
         have LMc16 := zA c16
         clear c16
         obtain ⟨y416, hy416⟩ : ∃ y_ : List Int, y_ = (x5_1 ++ [33]) := ⟨_, rfl⟩
         replace H : (if y416.length < 140737488355328 then (impl_FormatTerm.l0 k1 (y416 ++ [(97 + x12_1) % 256]) a0 (wrap64 (x12_1 + 1)) a1_0 a1_1) else (none)) = some r := by first | (rw [hy416]; with_reducible exact H) | (have H2_ := (Option.bind_some _ _).symm.trans H; rw [hy416]; with_reducible exact H2_) | (have H2_ := (Option.bind_some _ _).symm.trans H; with_reducible exact H2_) | with_reducible exact H | (rw [hy416]; exact H) | exact H
         have Ny416 := zA hy416
         clear hy416
         by_cases c17 : y416.length < 140737488355328
         ·rw [if_pos c17] at H
          have LMc17 := zA c17
          clear c17
          obtain ⟨y419, hy419⟩ : ∃ y_ : List Int, y_ = (y416 ++ [(97 + x12_1) % 256]) := ⟨_, rfl⟩
          replace H : (impl_FormatTerm.l0 k1 y419 a0 (wrap64 (x12_1 + 1)) a1_0 a1_1) = some r := by first | (rw [hy419]; with_reducible exact H) | (have H2_ := (Option.bind_some _ _).symm.trans H; rw [hy419]; with_reducible exact H2_) | (have H2_ := (Option.bind_some _ _).symm.trans H; with_reducible exact H2_) | with_reducible exact H | (rw [hy419]; exact H) | exact H
          have Ny419 := zA hy419
          clear hy419
          have H' := zA H
          clear H
          have hcz18_0 := zc0 BK414
          have hcz18_1 := zc1 BK414
          have hfz18_0 := blk_frozen BK414.out 0
          have hfz18_1 := blk_frozen BK414.out 1
          go_wp2_with (first | ((with_reducible refine gate_builtin (b := .append) (xs := #[.tmp 27, .tmp 28]) rfl ?_); at_builtin; refine Kd.R_append (Kd.int .u8) (w0 := w) w.heap.size rfl (.tmp 27) (.tmp 28) 22 5 (.int .u8 0) 1 rfl Try.underlying22 info5 rfl (by decide) (by omega) u5 x5_1 33 [.int .u8 33] (fun _ => True) (fun _ => False) rfl rfl ?aP (fun _ hk => hk.elim) ?aF ?aO ?aB ?aS ?aL ?_; (case aP => exact rfl); (case aB => exact (zB1 HB GE414)); (case aF => exact (fun _ _ => trivial)); (case aO => exact (zR HO_5)); (case aS => exact (below_size (zB1 HB GE414))); (case aL => have := LMc16.out; omega); intro v417 w19 ho hb hg hat; rw [← Ny416.out] at ho; have n0_ := zA (blk_grown (g := gb414) (o := .cells #[.int .i64 a1_0, .int .i64 a1_1] 33 (0, 0)) (zD BK414) hg (Kd.R_ne HO_5.out BK414.out (by decide))); have n1_ := zA (hb); have n2_ := zA (ho); clear BK414; clear HB; clear HO_5; have BK414 := n0_; have HB := n1_; have HO418 := n2_; clear n0_ n1_ n2_; clear ho hb hg hat) | ((with_reducible refine gate_builtin (b := .append) (xs := #[.tmp 30, .tmp 34]) rfl ?_); at_builtin; refine Kd.R_append (Kd.int .u8) (w0 := w) w.heap.size rfl (.tmp 30) (.tmp 34) 22 5 (.int .u8 0) 1 rfl Try.underlying22 info5 rfl (by decide) (by omega) v417 y416 ((97 + x12_1) % 256) [.int .u8 ((97 + x12_1) % 256)] (fun _ => True) (fun _ => False) rfl rfl ?aP (fun _ hk => hk.elim) ?aF ?aO ?aB ?aS ?aL ?_; (case aP => exact rfl); (case aB => exact (zB1 HB GE414)); (case aF => exact (fun _ _ => trivial)); (case aO => exact (zR HO418)); (case aS => exact (below_size (zB1 HB GE414))); (case aL => have := LMc17.out; omega); intro v420 w20 ho hb hg hat; rw [← Ny419.out] at ho; have n0_ := zA (blk_grown (g := gb414) (o := .cells #[.int .i64 a1_0, .int .i64 a1_1] 33 (0, 0)) (zD BK414) hg (Kd.R_ne HO418.out BK414.out (by decide))); have n1_ := zA (hb); have n2_ := zA (ho); clear BK414; clear HB; clear HO418; have BK414 := n0_; have HB := n1_; have HO421 := n2_; clear n0_ n1_ n2_; clear ho hb hg hat))
          go_roundg k1
          case measure => have := HK1.out; omega
          case rel => exact ⟨(y419), (wrap64 (x12_1 + 1)), zS, H', ⟨by have := HK1.out; omega⟩, ⟨zR HO421⟩, ⟨zD BK414⟩, ⟨zB1 HB GE414⟩⟩
         ·rw [if_neg c17] at H
          exact absurd H (by simp)
        ·rw [if_neg c16] at H
         exact absurd H (by simp)
       ·rw [if_neg c15] at H
        have c15b0 : ((Go.bits .and .i64 (ji14) 1) == 0) = false := beq_eq_false_iff_ne.mpr c15
        have c15b1 : ((Go.bits .and .i64 (ji14) 1) != 0) = true := bne_iff_ne.mpr c15
        by_cases c21 : x5_1.length < 140737488355328
        ·rw [if_pos c21] at H
         have LMc21 := zA c21
         clear c21
         obtain ⟨y422, hy422⟩ : ∃ y_ : List Int, y_ = (x5_1 ++ [(97 + x12_1) % 256]) := ⟨_, rfl⟩
         replace H : (impl_FormatTerm.l0 k1 y422 a0 (wrap64 (x12_1 + 1)) a1_0 a1_1) = some r := by first | (rw [hy422]; with_reducible exact H) | (have H2_ := (Option.bind_some _ _).symm.trans H; rw [hy422]; with_reducible exact H2_) | (have H2_ := (Option.bind_some _ _).symm.trans H; with_reducible exact H2_) | with_reducible exact H | (rw [hy422]; exact H) | exact H
         have Ny422 := zA hy422
         clear hy422
         have H' := zA H
         clear H
         have hcz22_0 := zc0 BK414
         have hcz22_1 := zc1 BK414
         have hfz22_0 := blk_frozen BK414.out 0
         have hfz22_1 := blk_frozen BK414.out 1
         go_wp2_with (first | ((with_reducible refine gate_builtin (b := .append) (xs := #[.tmp 30, .tmp 34]) rfl ?_); at_builtin; refine Kd.R_append (Kd.int .u8) (w0 := w) w.heap.size rfl (.tmp 30) (.tmp 34) 22 5 (.int .u8 0) 1 rfl Try.underlying22 info5 rfl (by decide) (by omega) u5 x5_1 ((97 + x12_1) % 256) [.int .u8 ((97 + x12_1) % 256)] (fun _ => True) (fun _ => False) rfl rfl ?aP (fun _ hk => hk.elim) ?aF ?aO ?aB ?aS ?aL ?_; (case aP => exact rfl); (case aB => exact (zB1 HB GE414)); (case aF => exact (fun _ _ => trivial)); (case aO => exact (zR HO_5)); (case aS => exact (below_size (zB1 HB GE414))); (case aL => have := LMc21.out; omega); intro v423 w23 ho hb hg hat; rw [← Ny422.out] at ho; have n0_ := zA (blk_grown (g := gb414) (o := .cells #[.int .i64 a1_0, .int .i64 a1_1] 33 (0, 0)) (zD BK414) hg (Kd.R_ne HO_5.out BK414.out (by decide))); have n1_ := zA (hb); have n2_ := zA (ho); clear BK414; clear HB; clear HO_5; have BK414 := n0_; have HB := n1_; have HO424 := n2_; clear n0_ n1_ n2_; clear ho hb hg hat))
         go_roundg k1
         case measure => have := HK1.out; omega
         case rel => exact ⟨(y422), (wrap64 (x12_1 + 1)), zS, H', ⟨by have := HK1.out; omega⟩, ⟨zR HO424⟩, ⟨zD BK414⟩, ⟨zB1 HB GE414⟩⟩
        ·rw [if_neg c21] at H
         exact absurd H (by simp)
     ·rw [if_neg c9] at H
      exact absurd H (by simp)
    ·rw [if_neg c8] at H
     have c8b0 : decide (x12_1 < a0) = false := decide_eq_false c8
     clear c8
     by_cases c24 : (x5_1.length : Int) = 0
     ·rw [if_pos c24] at H
      have c24b0 : ((x5_1.length : Int) == 0) = true := beq_iff_eq.mpr c24
      have c24b1 : ((x5_1.length : Int) != 0) = false := bne_eq_false_iff_eq.mpr c24
      clear c24
      obtain rfl := Option.some.inj H
      obtain ⟨Ao25, co25, eo25⟩ := Kd.R_slice HO_5.out
      subst eo25
      go_wp2
      go_ret
      exact ⟨zE, zB1 HB GE414⟩
     ·rw [if_neg c24] at H
      have c24b0 : ((x5_1.length : Int) == 0) = false := beq_eq_false_iff_ne.mpr c24
      have c24b1 : ((x5_1.length : Int) != 0) = true := bne_iff_ne.mpr c24
      have c24b2 : ¬ (x5_1 = []) := fun h_ => c24 (by rw [h_]; rfl)
      obtain rfl := Option.some.inj H
      obtain ⟨Ao26, co26, eo26⟩ := Kd.R_slice HO_5.out
      subst eo26
      have hcv27 := own_string (P := Try.prog) Try.underlying22 Try.underlying5 Try.underlying9 (Kd.own_of_R HO_5.out)
      go_wp2
      go_ret
      exact ⟨zE, zB1 HB GE414⟩
 ·replace c4 := Bool.eq_false_iff.mpr c4
  subst c4
  have H1 : (some (⟨#[]⟩ : ByteArray)) = some r := by rw [if_neg (show ¬ (false = true) by decide)] at H; exact H
  clear H
  have H := H1
  clear H1
  obtain rfl := Option.some.inj H
  go_enter Try.func17, Try.ntmps17
  go_wp2_with (first | ((with_reducible refine gate_dst (N := 3) rfl ?_); refine box_event ?hg (N := 3) ?hd (cs := #[.int .i64 a1_0, .int .i64 a1_1]) (t := 33) ?hr ?_; (case hd => rfl); (case hg => rfl); (case hr => exact zH); intro gb414 hg w28 hbox hb; have BK414 := zA (hbox); have GW414 := zg HB hg; have GE414 := zg HB hg; replace HB := zA (below_step (zB HB) hb); clear hb hbox hg; have hcz29_0 := zc0 BK414; have hcz29_1 := zc1 BK414; have hfz29_0 := blk_frozen BK414.out 0; have hfz29_1 := blk_frozen BK414.out 1) | ((with_reducible refine gate_callee (f := 21) rfl ?_); refine goesL_ (some 9) rfl rfl Try.func21 (by kernel_rfl) rfl #[.int .i64 a0, .agg #[.int .i64 a1_0, .int .i64 a1_1]] rfl zM ?_; (with_reducible refine (impl_IsTerm.calls a0 a1_0 a1_1 false _ A3.out).mono ?_); rintro e w30 ⟨rfl, hb⟩; refine ⟨_, rfl, ?_⟩; replace BK414 := zb BK414 hb; replace HB := zA (below_step (zB1 HB GE414) hb); (try clear hb); (try clear hb2); (try clear hk); (try clear hi)))
  go_ret
  exact ⟨zE, zB1 HB GE414⟩

end Go.Proofs.Ytfiejicdlaknnaa.P

namespace Go.Proofs.Ytfiejicdlaknnaa.Fmt
set_option linter.unusedVariables false
set_option linter.unusedSimpArgs false
open Go Go.RowKit Go.Proofs.Ytfiejicdlaknnaa.P Go.Proofs.Ytfiejicdlaknnaa.Bits Go.Proofs.Ytfiejicdlaknnaa.Tab Go.Proofs.Ytfiejicdlaknnaa.Shl Go.Proofs.YtfiejicdlaknnaaW.PrintWords Go.Proofs.YtfiejicdlaknnaaW.PrintLast Go.Proofs.YtfiejicdlaknnaaW.PrintMore
theorem letter_is (i : Nat) (hi : i < 5) : (⟨#[97, 98, 99, 100, 101]⟩ : ByteArray).extract i (i + 1) = strOfNums [(97 + (i : Int)) % 256] := by
 match i, hi with
 | 0, _ => rfl
 | 1, _ => rfl
 | 2, _ => rfl
 | 3, _ => rfl
 | 4, _ => rfl
theorem bang_is : (⟨#[33]⟩ : ByteArray) = strOfNums [33] := rfl
theorem nil_is (xs : List Int) : (strOfNums xs).toList = ([] : List UInt8) ↔ xs = [] := by
 rw [ByteArray.toList_eq]
 cases xs <;> simp [strOfNums]
theorem fmt_loop (n : Nat) (m v : Int) (h : isM n m v = true) : ∀ (d i k : Nat) (xs : List Int), i + d = n → xs.length ≤ 2 * i → 2 * d + 2 ≤ k →
  ∃ r, spec_FormatTerm.l0 k (n : Int) (strOfNums xs) (i : Int) m v = some r ∧ impl_FormatTerm.l0 k xs (n : Int) (i : Int) m v = some r := by
 obtain ⟨n0, n5, g0, g1, g2, g3, g4⟩ := of_decide_eq_true h
 have ht2 := two_le n
 intro d
 induction d with
 | zero =>
  intro i k xs hi hlen hk
  obtain ⟨k, rfl⟩ : ∃ q, k = q + 1 + 1 := ⟨k - 2, by omega⟩
  obtain rfl : i = n := by omega
  simp only [spec_FormatTerm.l0, spec_FormatTerm.j1, impl_FormatTerm.l0, spec_IsTerm_is, h, Option.bind_some, if_true]
  rw [if_neg (show ¬ (decide ((i : Int) < (i : Int)) = true) by simp), if_neg (show ¬ ((i : Int) < (i : Int)) by omega)]
  by_cases hx : xs = []
  ·subst hx
   rw [if_pos ((nil_is []).mpr rfl), if_pos (by simp)]
   exact ⟨_, rfl, rfl⟩
  ·rw [if_neg (fun q => hx ((nil_is xs).mp q)), if_neg (by
    have : xs.length ≠ 0 := fun q => hx (List.length_eq_zero_iff.mp q)
    omega)]
   exact ⟨_, rfl, rfl⟩
 | succ d ih =>
  intro i k xs hi hlen hk
  obtain ⟨k, rfl⟩ : ∃ q, k = q + 1 + 1 := ⟨k - 2, by omega⟩
  simp only [spec_FormatTerm.l0, spec_FormatTerm.j1, spec_IsTerm_is, h, Option.bind_some, if_true]
  rw [impl_FormatTerm.l0, if_pos (show decide ((i : Int) < (n : Int)) = true from decide_eq_true (by omega)), if_pos (show (i : Int) < (n : Int) by omega), if_pos (show 0 ≤ (i : Int) by omega), if_pos (show 0 ≤ (i : Int) by omega), shr_is (by omega), shr_is (by omega), bit_is g0 (by omega) (by omega) (by omega), bit_is g2 (by omega) (by omega) (by omega), w64 (by omega) (by omega)]
  have el : (⟨#[97, 98, 99, 100, 101]⟩ : ByteArray).extract (i : Int).toNat ((i : Int) + 1).toNat = strOfNums [(97 + (i : Int)) % 256] := letter_is i (by omega)
  rw [el, bang_is, ← strOfNums_append, ← strOfNums_append, ← strOfNums_append]
  simp only [strOfNums_size, Option.bind_some]
  have key : ∀ ys : List Int, ys.length ≤ 2 * (i + 1) → ∃ r, spec_FormatTerm.l0 k (n : Int) (strOfNums ys) ((i : Int) + 1) m v = some r ∧ impl_FormatTerm.l0 (k + 1) ys (n : Int) ((i : Int) + 1) m v = some r := by
   intro ys hy
   obtain ⟨r, r1, r2⟩ := ih (i + 1) k ys (by omega) hy (by omega)
   rw [show ((i + 1 : Nat) : Int) = (i : Int) + 1 from by omega] at r1 r2
   exact ⟨r, r1, impl_FormatTerm.mono_l k _ _ _ _ _ _ r2⟩
  by_cases hb : (((m.toNat.testBit (i : Int).toNat).toNat : Nat) : Int) = 0
  ·rw [if_pos hb, if_pos hb]
   exact key xs (by omega)
  ·rw [if_neg hb, if_neg hb]
   by_cases hc : (((v.toNat.testBit (i : Int).toNat).toNat : Nat) : Int) = 0
   ·rw [if_pos hc, if_pos hc]
    rw [if_pos (show xs.length + 1 ≤ 9223372036854775807 by omega), if_pos (show (i : Int) ≤ (i : Int) + 1 by omega), if_pos (show (i : Int) + 1 ≤ 5 by omega), if_pos (show (xs ++ [(33 : Int)] : List Int).length + ([(97 + (i : Int)) % 256] : List Int).length ≤ 9223372036854775807 by simp; omega), if_pos (show xs.length < 140737488355328 by omega), if_pos (show (xs ++ [(33 : Int)] : List Int).length < 140737488355328 by simp; omega)]
    exact key _ (by simp; omega)
   ·rw [if_neg hc, if_neg hc]
    rw [if_pos (show (i : Int) ≤ (i : Int) + 1 by omega), if_pos (show (i : Int) + 1 ≤ 5 by omega), if_pos (show xs.length + ([(97 + (i : Int)) % 256] : List Int).length ≤ 9223372036854775807 by simp; omega), if_pos (show xs.length < 140737488355328 by omega)]
    exact key _ (by simp; omega)
theorem format_same (n m v : Int) (hv1 : v ≤ 9223372036854775807) : ∃ r, spec_FormatTerm.f 40 n m v = some r ∧ impl_FormatTerm.f 40 n m v = some r := by
 unfold spec_FormatTerm.f impl_FormatTerm.f
 simp only [impl_IsTerm_is n m v hv1, Option.bind_some]
 cases h : isM n m v
 ·refine ⟨⟨#[]⟩, ?_, by simp⟩
  obtain ⟨k, hk⟩ : ∃ k, 40 = k + 1 + 1 := ⟨38, rfl⟩
  rw [hk]
  have e : (⟨#[]⟩ : ByteArray).toList = ([] : List UInt8) := (nil_is []).mpr rfl
  simp [spec_FormatTerm.l0, spec_IsTerm_is, h, spec_FormatTerm.j1, e]
 ·obtain ⟨n0, n5, -⟩ := of_decide_eq_true h
  obtain ⟨N, rfl⟩ := Int.eq_ofNat_of_zero_le n0
  simp only [if_true]
  exact fmt_loop N m v h N 0 40 [] (by omega) (by simp) (by omega)
end Go.Proofs.Ytfiejicdlaknnaa.Fmt
