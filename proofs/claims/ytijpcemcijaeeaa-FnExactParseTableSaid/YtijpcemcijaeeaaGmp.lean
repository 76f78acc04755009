/- The program's makeTable over ParseTable's closure, and ParseTable: what each call comes to. No conditions but those that stand in the theorems. -/
import Derived.Test.YtijpcemcijaeeaaP0
import Derived.Test.YtijpcemcijaeeaaBits
import Derived.Test.YtijpcemcijaeeaaGmb
import Derived.RegionTactic
import Derived.ChangeAlike
import Derived.OneCell
import Derived.Outline
import Derived.Lib.Hide
import Derived.Deep.RegionHeld3
import Derived.Test.YtijpcemcijaeeaaPm2
namespace Go.Proofs.Ytijpcemcijaeeaa.P
set_option linter.unusedVariables false
set_option linter.unusedSimpArgs false
open Go.RowKit Go.Proofs.Ytijpcemcijaeeaa.Bits Go.Proofs.YtijpcemcijaeeaaW.PrintWords Go.Proofs.YtijpcemcijaeeaaW.PrintLast Go.Proofs.YtijpcemcijaeeaaW.PrintMore

set_option maxHeartbeats 1000000 in
set_option maxRecDepth 100000 in
theorem makeTable_parse (n : Int) (N : Nat) (h1 : N ≤ 32) (hN : ∀ W : World, Sem.run Try.prog (Op.shift BinOp.shl IntKind.i64 1 IntKind.i64 n) W = .ok (.int .i64 (N : Int)) W) (c0 : Value) (p : Nat → Bool) (w : World)
    (hcl : ∀ (k : Nat) (W : World), k < N → Below w.heap.size w W → Calls Try.prog 83 #[.int .i64 (k : Int), c0] W fun e w' => e = .returned (.bool (p k)) ∧ Below W.heap.size W w') :
    Calls Try.prog 82 #[.int .i64 n, .func (.func 83) #[] #[c0]] w fun e w' => e = .returned (.agg #[.int .i64 n, .int .i64 (wordOf p N : Nat)]) ∧ Below w.heap.size w w' := by
  have HC := Go.Lib.hid hcl
  clear hcl
  go_enter Try.func82, Try.ntmps82
  go_wp2
  go_loopw [6, 11] (fun v6 i wr => ∃ k : Nat, k ≤ N ∧ i = .int .i64 (k : Int) ∧ wr.heap[w.heap.size + 1]? = some (.cells #[.int .i64 n, .int .i64 (wordOf p k : Nat)] 23 (0, 0)) ∧ wr.heap[w.heap.size]? = some (.cells #[.int .i64 0, .int .i64 0] 23 (0, 0)) ∧ Below w.heap.size w wr) (fun _ i _ => N - (intOf i).toNat)
  case atStart =>
    refine ⟨0, by omega, rfl, ?_, ?_, ((Below.refl _ _).alloc (Nat.le_refl _) _).alloc (by simp) _⟩
    · simpa [wordOf] using heap_alloc_new (w.alloc (.cells #[.int .i64 0, .int .i64 0] 23)) (.cells #[.int .i64 n, .int .i64 0] 23)
    · exact (Below.heap_alloc _ _ _ (by simp)).trans (heap_alloc_new _ _)
  case round =>
    obtain ⟨k, hk, rfl, hb1, hb0, hB⟩ := hrel
    have HB1 := Go.Lib.hid hb1
    have HB0 := Go.Lib.hid hb0
    have HBB := Go.Lib.hid hB
    clear hb1 hb0 hB
    by_cases hlt : k < N
    · go_wp2_with (fail)
      refine (HC.out k wr hlt HBB.out).mono ?_
      rintro e w2 ⟨rfl, hb⟩
      have hs := shift_one k (by omega)
      have B1 : w2.heap[w.heap.size + 1]? = some (.cells #[.int .i64 n, .int .i64 (wordOf p k : Nat)] 23 (0, 0)) := (hb.block _ (blk_lt HB1.out)).trans HB1.out
      have c0 : w2.cell? ⟨w.heap.size + 1, 0, none⟩ = some (.int .i64 n) := blk_cell B1 0
      have c1 : w2.cell? ⟨w.heap.size + 1, 1, none⟩ = some (.int .i64 (wordOf p k : Nat)) := blk_cell B1 1
      have f1 : w2.frozen? ⟨w.heap.size + 1, 1, none⟩ = false := blk_frozen B1 1
      cases hp : p k
      · have HP := Go.Lib.hid hp
        clear hp
        go_wp2
        go_roundw
        case rel => exact ⟨k + 1, by omega, by go_num, by rw [B1]; simp only [wordOf, HP.out]; simp, (hb.block _ (blk_lt HB0.out)).trans HB0.out, below_then HBB.out HBB.out.size hb⟩
        case measure => simp [intOf]; omega
      · have HP := Go.Lib.hid hp
        clear hp
        go_wp2
        go_region
        go_wp2
        go_roundw
        case rel => exact ⟨k + 1, by omega, by go_num, blk_drew (blk_put B1 1 _ (by simp only [wordOf, HP.out, if_true]; rw [or_pow p k (by omega)]; rfl)), blk_drew (blk_far ((hb.block _ (blk_lt HB0.out)).trans HB0.out) (by simp) _), (below_set (below_then HBB.out HBB.out.size hb) (by simp)).drew⟩
        case measure => simp [intOf]; omega
    · have c0 : wr.cell? ⟨w.heap.size + 1, 0, none⟩ = some (.int .i64 n) := blk_cell HB1.out 0
      have c1 : wr.cell? ⟨w.heap.size + 1, 1, none⟩ = some (.int .i64 (wordOf p k : Nat)) := blk_cell HB1.out 1
      have f0 : wr.frozen? ⟨w.heap.size, 0, none⟩ = false := blk_frozen HB0.out 0
      have f1 : wr.frozen? ⟨w.heap.size, 1, none⟩ = false := blk_frozen HB0.out 1
      have d0 : wr.cell? ⟨w.heap.size, 0, none⟩ = some (.int .i64 0) := blk_cell HB0.out 0
      have d1 : wr.cell? ⟨w.heap.size, 1, none⟩ = some (.int .i64 0) := blk_cell HB0.out 1
      obtain rfl : k = N := by omega
      go_wp2
      refine bodyPost_ret (results_cell_row rfl _ _ w.heap.size 23 #[.int .i64 n, .int .i64 (wordOf p k : Nat)] (0, 0) _ rfl ?_ Try.underlying23 rfl (by kernel_rfl)) rfl ⟨rfl, ?_⟩
      · exact blk_put (blk_put (cs' := #[.int .i64 n, .int .i64 0]) HB0.out 0 _ rfl) 1 _ rfl
      · exact below_set (below_set HBB.out (Nat.le_refl _)) (Nat.le_refl _)

set_option maxHeartbeats 400000 in
theorem parse1_calls (s : ByteArray) (x : Nat) (hx : x < s.size) (b : Nat) (W : World) (hc : W.cell? ⟨b, 0, none⟩ = some (.string s)) :
    Calls Try.prog 83 #[.int .i64 (x : Int), .pointer (some ⟨b, 0, none⟩)] W fun e w' => e = .returned (.bool (bt s (x : Int) == 49)) ∧ Below W.heap.size W w' := by
  go_enter Try.func83, Try.ntmps83
  go_wp2
  go_ret
  refine ⟨?_, Below.refl _ _⟩
  have hx' : (x : Int).toNat < s.size := by rw [Int.toNat_natCast]; exact hx
  have e : bt s (x : Int) = ((s[x]'hx).toNat : Int) := by
    unfold bt
    rw [dif_pos hx']
    rfl
  rw [e]
  rfl

def szN (m : Nat) : Option Nat := if m = 1 then some 0 else if m = 2 then some 1 else if m = 4 then some 2 else if m = 8 then some 3 else if m = 16 then some 4 else if m = 32 then some 5 else none
def parW (s : ByteArray) (n : Nat) : Nat := wordOf (fun x => bt s (x : Int) == 49) (2 ^ n)
def impl_ParseTable.f (a0 : ByteArray) : Option (Int × Int × Bool) := match szN a0.size with
  | none => some (0, 0, false)
  | some n => (impl_FormatTable.f 67 (n : Int) (parW a0 n : Nat)).bind fun t => if t.toList = a0.toList then some ((n : Int), ((parW a0 n : Nat) : Int), true) else some (0, 0, false)

set_option maxHeartbeats 1000000 in
set_option maxRecDepth 100000 in
theorem impl_ParseTable.calls (a0 : ByteArray) (r1 r2 : Int) (r3 : Bool) (w : World) (h : impl_ParseTable.f a0 = some (r1, r2, r3)) :
    Calls Try.prog 28 #[.string a0] w fun e w' => e = .returned (.tuple #[.agg #[.int .i64 r1, .int .i64 r2], .bool r3]) ∧ Below w.heap.size w w' := by
  have HH := Go.Lib.hid h
  clear h
  go_enter Try.func28, Try.ntmps28
  go_wp2_with (fail)
  go_loopw [4, 5, 6] (fun v4 v5 i wr => ∃ k : Nat, k ≤ 6 ∧ i = .int .i64 (k : Int) ∧ (∀ j, j < k → a0.size ≠ 2 ^ j) ∧ wr.heap[w.heap.size]? = some (.cells #[.string a0] 9 (0, 0)) ∧ wr.heap[w.heap.size + 1]? = some (.cells #[.int .i64 0, .int .i64 0] 23 (0, 0)) ∧ Below w.heap.size w wr) (fun _ _ i _ => 6 - (intOf i).toNat)
  case atStart =>
    refine ⟨0, by omega, rfl, fun j hj => absurd hj (by omega), ?_, ?_, ((Below.refl _ _).alloc (Nat.le_refl _) _).alloc (by simp) _⟩
    · exact (Below.heap_alloc _ _ _ (by simp)).trans (heap_alloc_new _ _)
    · simpa using heap_alloc_new (w.alloc (.cells #[.string a0] 9)) (.cells #[.int .i64 0, .int .i64 0] 23)
  case round =>
    obtain ⟨k, hk, rfl, hno, hb0, hb1, hB⟩ := hrel
    have HB1 := Go.Lib.hid hb1
    have HB0 := Go.Lib.hid hb0
    have HBB := Go.Lib.hid hB
    have HNO := Go.Lib.hid hno
    clear hb1 hb0 hB hno
    have s0 : wr.cell? ⟨w.heap.size, 0, none⟩ = some (.string a0) := blk_cell HB0.out 0
    by_cases hlt : k < 6
    · have hN := shift_one k (by omega)
      go_wp2_with (fail)
      go_region
      have ep : wrap64 (2 ^ k) = ((2 ^ k : Nat) : Int) := by
        have h5 : 2 ^ k ≤ 2 ^ 5 := Nat.pow_le_pow_right (by decide) (by omega)
        rw [show ((2 : Int) ^ k) = ((2 ^ k : Nat) : Int) from by push_cast; rfl]
        obtain ⟨q, hq⟩ : ∃ q, q = 2 ^ k := ⟨_, rfl⟩
        rw [← hq] at h5 ⊢
        exact w64 (by omega) (by omega)
      rw [ep]
      by_cases hs : a0.size = 2 ^ k
      · have es : ((a0.size : Int) == ((2 ^ k : Nat) : Int)) = true := by rw [hs]; exact beq_self_eq_true _
        rw [es]
        have h32 : 2 ^ k ≤ 2 ^ 5 := Nat.pow_le_pow_right (by decide) (by omega)
        have HC := Go.Lib.hid (makeTable_parse (k : Int) (2 ^ k) h32 hN (.pointer (some ⟨w.heap.size, 0, none⟩)) (fun x => bt a0 (x : Int) == 49) wr.drew)
        go_wp2_with (fail)
        refine (HC.out (fun j W hj hb => parse1_calls a0 j (by omega) w.heap.size W ?_)).mono ?_
        · exact pw_cell_below hb (by exact s0)
        rintro e w2 ⟨rfl, hb⟩
        have B0 : w2.heap[w.heap.size]? = some (.cells #[.string a0] 9 (0, 0)) := blk_below (show wr.drew.heap[w.heap.size]? = _ from HB0.out) hb
        have B1 : w2.heap[w.heap.size + 1]? = some (.cells #[.int .i64 0, .int .i64 0] 23 (0, 0)) := blk_below (show wr.drew.heap[w.heap.size + 1]? = _ from HB1.out) hb
        have HBd : Below w.heap.size w wr.drew := below_drew1 HBB.out
        have HB2 := Go.Lib.hid (below_then HBd HBd.size hb)
        have hz2 : w.heap.size + 1 < w2.heap.size := by
          have := blk_lt B1
          omega
        have hr := HH.out
        unfold impl_ParseTable.f at hr
        have hz : szN a0.size = some k := by
          rw [hs]
          rcases (by omega : k = 0 ∨ k = 1 ∨ k = 2 ∨ k = 3 ∨ k = 4 ∨ k = 5) with rfl | rfl | rfl | rfl | rfl | rfl <;> decide
        rw [hz] at hr
        simp only at hr
        have epw : (wordOf (fun x => bt a0 (x : Int) == 49) (2 ^ k)) = parW a0 k := rfl
        rw [epw]
        obtain ⟨q, hq⟩ : ∃ q, q = parW a0 k := ⟨_, rfl⟩
        rw [← hq] at hr ⊢
        obtain ⟨t, ht, hr⟩ := Option.bind_eq_some_iff.mp hr
        have HT := Go.Lib.hid ht
        have HR := Go.Lib.hid hr
        clear ht hr hq epw hz ep es HC hN
        go_wp2_with (fail)
        have D0 := blk_alloc B0 (.cells #[.int .i64 (k : Int), .int .i64 (q : Int)] 23)
        have D1 := blk_alloc B1 (.cells #[.int .i64 (k : Int), .int .i64 (q : Int)] 23)
        have D2 := heap_alloc_new w2 (.cells #[.int .i64 (k : Int), .int .i64 (q : Int)] 23)
        have HB3 := Go.Lib.hid (below_alloc HB2.out (.cells #[.int .i64 (k : Int), .int .i64 (q : Int)] 23))
        clear B0 B1 hb HB2
        generalize hb5 : w2.heap.size = b5 at *
        clear hb5
        generalize w2.alloc (.cells #[.int .i64 (k : Int), .int .i64 (q : Int)] 23) = W3 at *
        have E0 := blk_cell D0 0
        have E20 := blk_cell D2 0
        have E21 := blk_cell D2 1
        have L2 := blk_lt D2
        have L0 := blk_lt D0
        have hS0 : Below W3.heap.size W3 W3.drew := below_drew1 (Below.refl _ _)
        go_region_held3 (fun w' => w'.cell? ⟨w.heap.size, 0, none⟩ = some (.string a0) ∧ w'.cell? ⟨b5, 0, none⟩ = some (.int .i64 (k : Int)) ∧ w'.cell? ⟨b5, 1, none⟩ = some (.int .i64 (q : Int)) ∧ Below W3.heap.size W3 w')
          (first | go_keep | (go_split_ands; exact ⟨(hb4.cell (p := ⟨w.heap.size, 0, none⟩) (Nat.lt_of_lt_of_le L0 (Below.size (by assumption)))).trans (by assumption), (hb4.cell (p := ⟨b5, 0, none⟩) (Nat.lt_of_lt_of_le L2 (Below.size (by assumption)))).trans (by assumption), (hb4.cell (p := ⟨b5, 1, none⟩) (Nat.lt_of_lt_of_le L2 (Below.size (by assumption)))).trans (by assumption), below_then (by assumption) (Below.size (by assumption)) hb4⟩))
          (first | (go_at_call 84; refine (impl_FormatTable.calls 67 (k : Int) (q : Int) t _ HT.out).mono ?_; rintro e w4 ⟨rfl, hb4⟩))
        have SB : Below W3.heap.size W3 w4 := by first | assumption | (go_split_ands; assumption)
        have B1 := blk_below D1 SB
        have B5 := blk_below D2 SB
        have HB4 := Go.Lib.hid (below_then HB3.out HB3.out.size SB)
        have g0 : w4.cell? ⟨b5, 0, none⟩ = some (.int .i64 (k : Int)) := blk_cell B5 0
        have g1 : w4.cell? ⟨b5, 1, none⟩ = some (.int .i64 (q : Int)) := blk_cell B5 1
        have f0 : w4.frozen? ⟨w.heap.size + 1, 0, none⟩ = false := blk_frozen B1 0
        have f1 : w4.frozen? ⟨w.heap.size + 1, 1, none⟩ = false := blk_frozen B1 1
        have d0 : w4.cell? ⟨w.heap.size + 1, 0, none⟩ = some (.int .i64 0) := blk_cell B1 0
        have d1 : w4.cell? ⟨w.heap.size + 1, 1, none⟩ = some (.int .i64 0) := blk_cell B1 1
        have BB1 := Go.Lib.hid B1
        clear B5 D0 D1 D2 E0 E20 E21 L2 L0 hS0 B1 SB
        by_cases hts : t.toList = a0.toList
        · have hrr := HR.out
          rw [if_pos hts] at hrr
          simp only [Option.some.injEq, Prod.mk.injEq] at hrr
          obtain ⟨rfl, rfl, rfl⟩ := hrr
          have c1 : (t.toList == a0.toList) = true := beq_iff_eq.mpr hts
          rw [c1]
          clear hts c1
          go_wp2_with (fail)
          refine bodyPost_ret (results_ct rfl _ _ (w.heap.size + 1) 23 #[.int .i64 (k : Int), .int .i64 (q : Int)] (0, 0) _ rfl ?_ Try.underlying23 rfl (by kernel_rfl)) rfl ⟨rfl, ?_⟩
          · exact blk_put (blk_put (cs' := #[.int .i64 (k : Int), .int .i64 0]) BB1.out 0 _ rfl) 1 _ rfl
          · exact below_set (below_set HB4.out (by omega)) (by omega)
        · have hrr := HR.out
          rw [if_neg hts] at hrr
          simp only [Option.some.injEq, Prod.mk.injEq] at hrr
          obtain ⟨rfl, rfl, rfl⟩ := hrr
          have c1 : (t.toList == a0.toList) = false := beq_eq_false_iff_ne.mpr hts
          rw [c1]
          clear hts c1
          go_wp2_with (fail)
          refine bodyPost_ret (results_ct rfl _ _ (w.heap.size + 1) 23 #[.int .i64 0, .int .i64 0] (0, 0) _ rfl ?_ Try.underlying23 rfl (by kernel_rfl)) rfl ⟨rfl, ?_⟩
          · exact blk_put (blk_put (cs' := #[.int .i64 0, .int .i64 0]) BB1.out 0 _ rfl) 1 _ rfl
          · exact below_set (below_set HB4.out (by omega)) (by omega)
      · have es : ((a0.size : Int) == ((2 ^ k : Nat) : Int)) = false := by
          rw [beq_eq_false_iff_ne]
          omega
        rw [es]
        go_wp2_with (fail)
        refine ⟨⟨k + 1, by omega, by go_num, ?_, HB0.out, HB1.out, below_drew1 HBB.out⟩, by simp [intOf]; omega⟩
        intro j hj
        by_cases e : j = k
        · subst e; exact hs
        · exact HNO.out j (by omega)
    · have f0 : wr.frozen? ⟨w.heap.size + 1, 0, none⟩ = false := blk_frozen HB1.out 0
      have f1 : wr.frozen? ⟨w.heap.size + 1, 1, none⟩ = false := blk_frozen HB1.out 1
      have d0 : wr.cell? ⟨w.heap.size + 1, 0, none⟩ = some (.int .i64 0) := blk_cell HB1.out 0
      have d1 : wr.cell? ⟨w.heap.size + 1, 1, none⟩ = some (.int .i64 0) := blk_cell HB1.out 1
      have hz : szN a0.size = none := by
        have n0 := HNO.out 0 (by omega)
        have n1 := HNO.out 1 (by omega)
        have n2 := HNO.out 2 (by omega)
        have n3 := HNO.out 3 (by omega)
        have n4 := HNO.out 4 (by omega)
        have n5 := HNO.out 5 (by omega)
        unfold szN
        rw [if_neg (by simpa using n0), if_neg (by simpa using n1), if_neg (by simpa using n2), if_neg (by simpa using n3), if_neg (by simpa using n4), if_neg (by simpa using n5)]
      have hr := HH.out
      unfold impl_ParseTable.f at hr
      rw [hz] at hr
      simp only [Option.some.injEq, Prod.mk.injEq] at hr
      obtain ⟨rfl, rfl, rfl⟩ := hr
      go_wp2_with (fail)
      refine bodyPost_ret (results_ct rfl _ _ (w.heap.size + 1) 23 #[.int .i64 0, .int .i64 0] (0, 0) _ rfl ?_ Try.underlying23 rfl (by kernel_rfl)) rfl ⟨rfl, ?_⟩
      · exact blk_put (blk_put (cs' := #[.int .i64 0, .int .i64 0]) HB1.out 0 _ rfl) 1 _ rfl
      · exact below_set (below_set HBB.out (by omega)) (by omega)
end Go.Proofs.Ytijpcemcijaeeaa.P
