/- The program's cube: what each call comes to, in the form of the printed walks. No conditions but those that stand in the theorems. -/
import Derived.Test.YtekdidlaeljdjaaP0
import Derived.Test.YtekdidlaeljdjaaBits
import Derived.Test.YtekdidlaeljdjaaGmb
import Derived.RegionTactic
import Derived.ChangeAlike
import Derived.OneCell
import Derived.Outline
import Derived.Lib.Hide
import Derived.Test.YtekdidlaeljdjaaPm0
namespace Go.Proofs.Ytekdidlaeljdjaa.P
set_option linter.unusedVariables false
set_option linter.unusedSimpArgs false
open Go.RowKit Go.Proofs.Ytekdidlaeljdjaa.Bits Go.Proofs.YtekdidlaeljdjaaW.PrintWords Go.Proofs.YtekdidlaeljdjaaW.PrintLast Go.Proofs.YtekdidlaeljdjaaW.PrintMore

/-- was the value b seen at an input below k of the cube -/
def seenB (w m v : Nat) (b : Bool) : Nat → Bool
  | 0 => false
  | k + 1 => seenB w m v b k || (decide (k &&& m = v) && (w.testBit k == b))

def cubeV (w m v M : Nat) : Int := if seenB w m v false M && seenB w m v true M then 2 else if seenB w m v true M then 1 else 0

def impl_Table_cube.f (a0_0 : Int) (a0_1 : Int) (a1 : Int) (a2 : Int) : Option (Int) := if 0 ≤ a0_0 ∧ a0_0 ≤ 5 ∧ 0 ≤ a0_1 ∧ a0_1 ≤ 4294967296 ∧ 0 ≤ a1 ∧ a1 < 32 ∧ 0 ≤ a2 ∧ a2 < 32 then some (cubeV a0_1.toNat a1.toNat a2.toNat (2 ^ a0_0.toNat)) else none

set_option maxHeartbeats 1000000 in
set_option maxRecDepth 100000 in
theorem impl_Table_cube.calls (a0_0 : Int) (a0_1 : Int) (a1 : Int) (a2 : Int) (r : Int) (w : World) (h : impl_Table_cube.f a0_0 a0_1 a1 a2 = some r) :
    Calls Try.prog 15 #[.agg #[.int .i64 a0_0, .int .i64 a0_1], .int .i64 a1, .int .i64 a2] w fun e w' => e = .returned (.int .i64 r) ∧ Below w.heap.size w w' := by
  unfold impl_Table_cube.f at h
  split at h
  · rename_i hh
    obtain ⟨g0, g1, g2, g3, g4, g5, g6, g7⟩ := hh
    obtain ⟨n, rfl⟩ := Int.eq_ofNat_of_zero_le g0
    obtain ⟨v, rfl⟩ := Int.eq_ofNat_of_zero_le g2
    obtain ⟨m, rfl⟩ := Int.eq_ofNat_of_zero_le g4
    obtain ⟨u, rfl⟩ := Int.eq_ofNat_of_zero_le g6
    simp only [Option.some.injEq, Int.toNat_natCast] at h
    have HR := Go.Lib.hid h
    clear h
    have hM : 2 ^ n ≤ 2 ^ 5 := Nat.pow_le_pow_right (by decide) (by omega)
    have hsz : impl_Table_size.f (n : Int) (v : Int) = some ((2 ^ n : Nat) : Int) := by
      unfold impl_Table_size.f
      rw [if_pos (by omega)]
      have e : shl .i64 1 (n : Int) = ((2 ^ n : Nat) : Int) := by
        unfold shl
        rw [Nat.min_eq_left (by simp [IntKind.bits]; omega), Int.toNat_natCast, Int.one_mul]
        have : ((2 : Int) ^ n) = ((2 ^ n : Nat) : Int) := by push_cast; rfl
        rw [this]
        exact wrap_nat _ (Nat.pow_lt_pow_right (by decide) (by omega))
      rw [e]
    obtain ⟨M, hMM⟩ : ∃ M, 2 ^ n = M := ⟨_, rfl⟩
    rw [hMM] at hM hsz HR
    clear hMM
    have hM2 : M ≤ 32 := hM
    clear hM
    have HS := Go.Lib.hid hsz
    clear hsz
    go_enter Try.func15, Try.ntmps15
    go_wp2_with (fail)
    refine (impl_Table_size.calls (n : Int) (v : Int) _ _ HS.out).mono ?_
    rintro e w1 ⟨rfl, hb⟩
    have HB1 := Go.Lib.hid hb
    clear hb
    have HF := Go.Lib.hid (blk_below (by simpa using blk_alloc (blk_new w (.cells #[.int .i64 (n : Int), .int .i64 (v : Int)] 25)) (.cells #[.bool false, .bool false] 46)) HB1.out : w1.heap[w.heap.size]? = some (.cells #[.int .i64 (n : Int), .int .i64 (v : Int)] 25 (0, 0)))
    have HN := Go.Lib.hid (blk_below (by simpa using blk_new (w.alloc (.cells #[.int .i64 (n : Int), .int .i64 (v : Int)] 25)) (.cells #[.bool false, .bool false] 46)) HB1.out : w1.heap[w.heap.size + 1]? = some (.cells #[.bool false, .bool false] 46 (0, 0)))
    go_wp2
    go_loopw [8, 12] (fun v8 i wr => ∃ k : Nat, k ≤ M ∧ i = .int .i64 (k : Int) ∧ wr.heap[w.heap.size + 1]? = some (.cells #[.bool (seenB v m u false k), .bool (seenB v m u true k)] 46 (0, 0)) ∧ wr.heap[w.heap.size]? = some (.cells #[.int .i64 (n : Int), .int .i64 (v : Int)] 25 (0, 0)) ∧ Below w.heap.size w wr) (fun _ i _ => M - (intOf i).toNat)
    case atStart =>
      exact ⟨0, by omega, rfl, HN.out, HF.out, below_then (((Below.refl _ _).alloc (Nat.le_refl _) _).alloc (by simp) _) (by simp; omega) HB1.out⟩
    case round =>
      obtain ⟨k, hk, rfl, hb1, hb0, hB⟩ := hrel
      have HBS := Go.Lib.hid hb1
      have HBF := Go.Lib.hid hb0
      have HBB := Go.Lib.hid hB
      clear hb1 hb0 hB
      have s0 : wr.cell? ⟨w.heap.size + 1, 0, none⟩ = some (.bool (seenB v m u false k)) := blk_cell HBS.out 0
      have s1 : wr.cell? ⟨w.heap.size + 1, 1, none⟩ = some (.bool (seenB v m u true k)) := blk_cell HBS.out 1
      have q0 : wr.cell? ⟨w.heap.size, 0, none⟩ = some (.int .i64 (n : Int)) := blk_cell HBF.out 0
      have q1 : wr.cell? ⟨w.heap.size, 1, none⟩ = some (.int .i64 (v : Int)) := blk_cell HBF.out 1
      have z0 : wr.frozen? ⟨w.heap.size + 1, 0, none⟩ = false := blk_frozen HBS.out 0
      have z1 : wr.frozen? ⟨w.heap.size + 1, 1, none⟩ = false := blk_frozen HBS.out 1
      by_cases hlt : k < M
      · have HA := Go.Lib.hid (and_nat k m (by rw [p63]; omega) (by rw [p63]; omega))
        by_cases hin : k &&& m = u
        · have HIN := Go.Lib.hid hin
          have ht : (bits BinOp.and IntKind.i64 (k : Int) (m : Int) == (u : Int)) = true := by rw [HA.out, hin]; exact beq_self_eq_true _
          clear hin
          have hat : impl_Table_at.f (n : Int) (v : Int) (k : Int) = some (((v.testBit k).toNat : Nat) : Int) := by
            unfold impl_Table_at.f
            rw [if_pos (by omega)]
            have e : shr .i64 (v : Int) (k : Int) = (v : Int) / 2 ^ (k : Int).toNat := by
              unfold shr
              rw [Nat.min_eq_left (by simp [IntKind.bits]; omega)]
            rw [e, bit_is (by omega) (by omega) (by omega) (by omega), Int.toNat_natCast, Int.toNat_natCast]
          have HT := Go.Lib.hid hat
          clear hat
          cases hbit : v.testBit k
          · have HBIT := Go.Lib.hid hbit
            rw [hbit] at HT
            clear hbit
            have HT0 : Hid (impl_Table_at.f (n : Int) (v : Int) (k : Int) = some 0) := HT
            clear HT
            go_wp2_with (fail)
            refine (impl_Table_at.calls (n : Int) (v : Int) (k : Int) _ _ HT0.out).mono ?_
            rintro e w2 ⟨rfl, hb⟩
            have HB2 := Go.Lib.hid hb
            have S2 : w2.heap[w.heap.size + 1]? = some (.cells #[.bool (seenB v m u false k), .bool (seenB v m u true k)] 46 (0, 0)) := blk_below HBS.out hb
            have F2 : w2.heap[w.heap.size]? = some (.cells #[.int .i64 (n : Int), .int .i64 (v : Int)] 25 (0, 0)) := blk_below HBF.out hb
            have s0' : w2.cell? ⟨w.heap.size + 1, 0, none⟩ = some (.bool (seenB v m u false k)) := blk_cell S2 0
            have z0' : w2.frozen? ⟨w.heap.size + 1, 0, none⟩ = false := blk_frozen S2 0
            clear hb s0 s1 q0 q1 z0 z1
            go_wp2
            go_roundw
            case rel =>
              refine ⟨k + 1, by omega, by go_num, ?_, blk_far F2 (by simp) _, below_set (below_then HBB.out HBB.out.size HB2.out) (by simp)⟩
              refine blk_put S2 0 _ ?_
              simp [seenB, HIN.out, HBIT.out]
            case measure => simp [intOf]; omega
          · have HBIT := Go.Lib.hid hbit
            rw [hbit] at HT
            clear hbit
            have HT0 : Hid (impl_Table_at.f (n : Int) (v : Int) (k : Int) = some 1) := HT
            clear HT
            go_wp2_with (fail)
            refine (impl_Table_at.calls (n : Int) (v : Int) (k : Int) _ _ HT0.out).mono ?_
            rintro e w2 ⟨rfl, hb⟩
            have HB2 := Go.Lib.hid hb
            have S2 : w2.heap[w.heap.size + 1]? = some (.cells #[.bool (seenB v m u false k), .bool (seenB v m u true k)] 46 (0, 0)) := blk_below HBS.out hb
            have F2 : w2.heap[w.heap.size]? = some (.cells #[.int .i64 (n : Int), .int .i64 (v : Int)] 25 (0, 0)) := blk_below HBF.out hb
            have s1' : w2.cell? ⟨w.heap.size + 1, 1, none⟩ = some (.bool (seenB v m u true k)) := blk_cell S2 1
            have z1' : w2.frozen? ⟨w.heap.size + 1, 1, none⟩ = false := blk_frozen S2 1
            clear hb s0 s1 q0 q1 z0 z1
            go_wp2
            go_roundw
            case rel =>
              refine ⟨k + 1, by omega, by go_num, ?_, blk_far F2 (by simp) _, below_set (below_then HBB.out HBB.out.size HB2.out) (by simp)⟩
              refine blk_put S2 1 _ ?_
              simp [seenB, HIN.out, HBIT.out]
            case measure => simp [intOf]; omega
        · have HIN := Go.Lib.hid hin
          have ht : (bits BinOp.and IntKind.i64 (k : Int) (m : Int) == (u : Int)) = false := by rw [HA.out, beq_eq_false_iff_ne]; omega
          clear hin
          go_wp2
          go_roundw
          case rel =>
            refine ⟨k + 1, by omega, by go_num, ?_, HBF.out, HBB.out⟩
            rw [HBS.out]
            simp [seenB, HIN.out]
          case measure => simp [intOf]; omega
      · obtain rfl : k = M := by omega
        cases hs0 : seenB v m u false k
        · rw [hs0] at s0
          cases hs1 : seenB v m u true k
          · rw [hs1] at s1
            have E : Hid ((0 : Int) = r) := Go.Lib.hid (by rw [← HR.out]; simp [cubeV, hs0, hs1])
            clear hs0 hs1
            go_wp2
            go_ret
            exact ⟨by rw [← E.out]; rfl, HBB.out⟩
          · rw [hs1] at s1
            have E : Hid ((1 : Int) = r) := Go.Lib.hid (by rw [← HR.out]; simp [cubeV, hs0, hs1])
            clear hs0 hs1
            go_wp2
            go_ret
            exact ⟨by rw [← E.out]; rfl, HBB.out⟩
        · rw [hs0] at s0
          cases hs1 : seenB v m u true k
          · rw [hs1] at s1
            have E : Hid ((0 : Int) = r) := Go.Lib.hid (by rw [← HR.out]; simp [cubeV, hs0, hs1])
            clear hs0 hs1
            go_wp2
            go_ret
            exact ⟨by rw [← E.out]; rfl, HBB.out⟩
          · rw [hs1] at s1
            have E : Hid ((2 : Int) = r) := Go.Lib.hid (by rw [← HR.out]; simp [cubeV, hs0, hs1])
            clear hs0 hs1
            go_wp2
            go_ret
            exact ⟨by rw [← E.out]; rfl, HBB.out⟩
  · cases h
end Go.Proofs.Ytekdidlaeljdjaa.P
