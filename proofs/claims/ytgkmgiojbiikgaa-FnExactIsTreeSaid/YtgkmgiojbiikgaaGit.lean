/- The program's readTree, wholeTree and IsTree: what each call comes to. No conditions but those that stand in the theorems. -/
import Derived.Test.YtgkmgiojbiikgaaP0
import Derived.Test.YtgkmgiojbiikgaaBits
import Derived.Test.YtgkmgiojbiikgaaGmb
import Derived.Test.YtgkmgiojbiikgaaGif
import Derived.RegionTactic
import Derived.ChangeAlike
import Derived.OneCell
import Derived.Outline
import Derived.Lib.Hide
import Derived.Shelf.Abstract
import Derived.Test.YtgkmgiojbiikgaaPz0
namespace Go.Proofs.Ytgkmgiojbiikgaa.P
set_option linter.unusedVariables false
set_option linter.unusedSimpArgs false
open Go.RowKit Go.Proofs.Ytgkmgiojbiikgaa.Bits Go.Proofs.YtgkmgiojbiikgaaW.PrintWords Go.Proofs.YtgkmgiojbiikgaaW.PrintLast Go.Proofs.YtgkmgiojbiikgaaW.PrintMore


/-- what stands behind the tree at the beginning of a text in which the letters of a set do not occur; none if there is none -/
def rt : Nat → ByteArray → Nat → Option ByteArray
  | 0, _, _ => none
  | k + 1, t, a => if t.size = 0 then none else if bt t 0 = 48 ∨ bt t 0 = 49 then some (t.extract 1 t.size) else if 97 ≤ bt t 0 ∧ bt t 0 < 102 then (if a.testBit (bt t 0 - 97).toNat = true then none else (rt k (t.extract 1 t.size) (a ||| 2 ^ (bt t 0 - 97).toNat)).bind fun u => rt k u (a ||| 2 ^ (bt t 0 - 97).toNat)) else none

set_option maxHeartbeats 400000 in
theorem variable_calls (v : Nat) (hv : v < 5) (b : Nat) (w : World) (hc : w.cell? ⟨b, 0, none⟩ = some (.int .u8 (97 + (v : Int)))) :
    Calls Try.prog 137 #[.pointer (some ⟨b, 0, none⟩)] w fun e w' => e = .returned (.int .i64 (v : Int)) ∧ w' = w := by
  have e : (97 + (v : Int) - 97) % 256 = (v : Int) := by omega
  have e2 : wrap64 (v : Int) = (v : Int) := w64 (by omega) (by omega)
  have E := Go.Lib.hid e
  have E2 := Go.Lib.hid e2
  clear e e2
  go_enter Try.func137, Try.ntmps137
  go_wp2
  go_ret
  refine ⟨?_, rfl⟩
  first | rfl | (simp only [E.out, E2.out]; done) | (simp; omega) | (congr 2; omega)

set_option maxHeartbeats 1000000 in
set_option maxRecDepth 100000 in
theorem readTree_empty (t : ByteArray) (a : Nat) (w : World) (h0 : t.size = 0) : Calls Try.prog 124 #[.string t, .int .i64 (a : Int)] w (RP none w) := by
  have e1 := toList_of_zero h0
  clear h0
  go_enter Try.func124, Try.ntmps124
  go_wp2_with (fail)
  go_ret2
  exact ⟨none, rfl, rfl, Below.refl _ _⟩

set_option maxHeartbeats 1000000 in
set_option maxRecDepth 100000 in
theorem readTree_leaf (t : ByteArray) (a : Nat) (w : World) (h0 : 0 < t.size) (c : Int) (hx : ((t[0]'h0).toNat : Int) = c) (hc : c = 48 ∨ c = 49) : Calls Try.prog 124 #[.string t, .int .i64 (a : Int)] w (RP (some (t.extract 1 t.size)) w) := by
  have e1 := toList_of_pos h0
  have hz : (1 : Int) ≤ (t.size : Int) := by omega
  have hz0 : (0 : Int) < (t.size : Int) := by omega
  rcases hc with rfl | rfl
  all_goals
    go_enter Try.func124, Try.ntmps124
    go_wp2_with (fail)
    go_ret2
    exact ⟨some ⟨w.heap.size, 0, none⟩, rfl, rfl, below_alloc (Below.refl _ _) _⟩

set_option maxHeartbeats 1000000 in
set_option maxRecDepth 100000 in
theorem readTree_other (t : ByteArray) (a : Nat) (w : World) (h0 : 0 < t.size) (c : Int) (hx : ((t[0]'h0).toNat : Int) = c) (hc : ¬ (97 ≤ c ∧ c < 102)) (q0 : (c == 48) = false) (q1 : (c == 49) = false) : Calls Try.prog 124 #[.string t, .int .i64 (a : Int)] w (RP none w) := by
  have e1 := toList_of_pos h0
  have hz : (1 : Int) ≤ (t.size : Int) := by omega
  have hz0 : (0 : Int) < (t.size : Int) := by omega
  have HL := Go.Lib.hid (letter_no c hc)
  clear hc
  go_enter Try.func124, Try.ntmps124
  go_wp2_with (go_at_call 80; refine (impl_isLetter.calls c false _ HL.out).mono ?_; rintro e w' ⟨rfl, ⟨nd, rfl⟩⟩)
  go_ret2
  exact ⟨none, rfl, rfl, pw_below_drewN (below_alloc (Below.refl _ _) _) _⟩

theorem shr_run (a v : Nat) (hv : v ≤ 62) (W : World) : Sem.run Try.prog (Op.shift BinOp.shr IntKind.i64 (a : Int) IntKind.i64 (v : Int)) W = .ok (.int .i64 ((a : Int) / 2 ^ v)) W := by
  rw [shift_shr _ _ _ _ (by omega) (by simp [IntKind.bits]; omega)]
  rfl

set_option maxHeartbeats 2000000 in
set_option maxRecDepth 100000 in
theorem readTree_asked (t : ByteArray) (a v : Nat) (w : World) (h0 : 0 < t.size) (ha : a < 32) (hv : v < 5) (hx : ((t[0]'h0).toNat : Int) = 97 + (v : Int)) (hb : a.testBit v = true) : Calls Try.prog 124 #[.string t, .int .i64 (a : Int)] w (RP none w) := by
  have e1 := toList_of_pos h0
  have hz : (1 : Int) ≤ (t.size : Int) := by omega
  have hz0 : (0 : Int) < (t.size : Int) := by omega
  have q0 : ((97 + (v : Int)) == 48) = false := by rw [beq_eq_false_iff_ne]; omega
  have q1 : ((97 + (v : Int)) == 49) = false := by rw [beq_eq_false_iff_ne]; omega
  have HL := Go.Lib.hid (letter_yes (97 + (v : Int)) (by omega))
  have hs := fun W => shr_run a v (by omega) W
  have hq := bit_is (w := (a : Int)) (x := (v : Int)) (by omega) (by omega) (by omega) (by omega)
  rw [Int.toNat_natCast, Int.toNat_natCast, hb] at hq
  have hq2 : ((bits BinOp.and IntKind.i64 ((a : Int) / 2 ^ v) 1) == 1) = true := by rw [hq]; rfl
  have hq3 : ((bits BinOp.and IntKind.i64 ((a : Int) / 2 ^ (min v 64)) 1) == 1) = true := by rw [Nat.min_eq_left (by omega)]; exact hq2
  clear hq hb
  have HV := Go.Lib.hid (fun (W : World) (hc : W.cell? ⟨w.heap.size, 0, none⟩ = some (.int .u8 (97 + (v : Int)))) => variable_calls v hv w.heap.size W hc)
  clear ha hv
  go_enter Try.func124, Try.ntmps124
  go_wp2_with (first | (go_at_call 80; refine (impl_isLetter.calls _ true _ HL.out).mono ?_; rintro e w' ⟨rfl, ⟨nd, rfl⟩⟩) | (go_at_call 137; refine (HV.out _ (by go_simp)).mono ?_; rintro e w' ⟨rfl, rfl⟩))
  go_ret2
  exact ⟨none, rfl, rfl, pw_below_drewN (below_alloc (Below.refl _ _) _) _⟩

set_option maxHeartbeats 4000000 in
set_option maxRecDepth 100000 in
theorem readTree_node (t : ByteArray) (a v a2 : Nat) (w : World) (h0 : 0 < t.size) (ha : a < 32) (hv : v < 5) (hx : ((t[0]'h0).toNat : Int) = 97 + (v : Int)) (hb : a.testBit v = false) (ha2 : a ||| 2 ^ v = a2) (r1 : Option ByteArray) (r2 : ByteArray → Option ByteArray) (hrec : ∀ W, Calls Try.prog 124 #[.string (t.extract 1 t.size), .int .i64 (a2 : Int)] W (RP r1 W)) (hrec2 : ∀ u W, r1 = some u → Calls Try.prog 124 #[.string u, .int .i64 (a2 : Int)] W (RP (r2 u) W)) : Calls Try.prog 124 #[.string t, .int .i64 (a : Int)] w (RP (r1.bind r2) w) := by
  have e1 := toList_of_pos h0
  have hz : (1 : Int) ≤ (t.size : Int) := by omega
  have hz0 : (0 : Int) < (t.size : Int) := by omega
  have q0 : ((97 + (v : Int)) == 48) = false := by rw [beq_eq_false_iff_ne]; omega
  have q1 : ((97 + (v : Int)) == 49) = false := by rw [beq_eq_false_iff_ne]; omega
  have HL := Go.Lib.hid (letter_yes (97 + (v : Int)) (by omega))
  have hs := fun W => shr_run a v (by omega) W
  have hq := bit_is (w := (a : Int)) (x := (v : Int)) (by omega) (by omega) (by omega) (by omega)
  rw [Int.toNat_natCast, Int.toNat_natCast, hb] at hq
  have hq2 : ((bits BinOp.and IntKind.i64 ((a : Int) / 2 ^ v) 1) == 1) = false := by rw [hq]; rfl
  have hq3 : ((bits BinOp.and IntKind.i64 ((a : Int) / 2 ^ (min v 64)) 1) == 1) = false := by rw [Nat.min_eq_left (by omega)]; exact hq2
  clear hq hb
  have HV := Go.Lib.hid (fun (W : World) (hc : W.cell? ⟨w.heap.size, 0, none⟩ = some (.int .u8 (97 + (v : Int)))) => variable_calls v hv w.heap.size W hc)
  have hp : 2 ^ v ≤ 2 ^ 4 := Nat.pow_le_pow_right (by decide) (by omega)
  have hn := shift_one v (by omega)
  have ho : bits BinOp.or IntKind.i64 (a : Int) ((2 ^ v : Nat) : Int) = (a2 : Int) := by rw [or_nat _ _ (by rw [p63]; omega) (by rw [p63]; omega), ha2]
  have ec : ((2 ^ v : Nat) : Int) = (2 : Int) ^ v := by push_cast; rfl
  have ho2 : bits BinOp.or IntKind.i64 (a : Int) ((2 : Int) ^ v) = (a2 : Int) := by rw [← ec]; exact ho
  have hwr : wrap64 ((2 ^ v : Nat) : Int) = ((2 ^ v : Nat) : Int) := by
    obtain ⟨q, hq⟩ : ∃ q, q = 2 ^ v := ⟨_, rfl⟩
    rw [← hq] at hp ⊢
    exact w64 (by omega) (by omega)
  have ho3 : bits BinOp.or IntKind.i64 (a : Int) (wrap64 ((2 : Int) ^ (min v 64))) = (a2 : Int) := by rw [Nat.min_eq_left (by omega), ← ec, hwr]; exact ho
  have ho4 : bits BinOp.or IntKind.i64 (a : Int) ((2 : Int) ^ (min v 64)) = (a2 : Int) := by rw [Nat.min_eq_left (by omega)]; exact ho2
  have HR := Go.Lib.hid hrec
  have HR2 := Go.Lib.hid hrec2
  clear ha hv ha2 hp ec hwr hrec hrec2
  go_enter Try.func124, Try.ntmps124
  go_wp2_with (first | (go_at_call 80; refine (impl_isLetter.calls _ true _ HL.out).mono ?_; rintro e w' ⟨rfl, ⟨nd, rfl⟩⟩) | (go_at_call 137; refine (HV.out _ (by go_simp)).mono ?_; rintro e w' ⟨rfl, rfl⟩))
  refine (HR.out _).mono ?_
  rintro e w1 ⟨pv, rfl, hpv, hb⟩
  have B0 := blk_below (g := w.heap.size) (blk_drewN (heap_alloc_new w (.cells #[.int .u8 _, .pointer none, .pointer none] 146)) nd) hb
  have HB1 := Go.Lib.hid (below_then (pw_below_drewN (below_alloc (Below.refl w.heap.size w) (.cells #[.int .u8 _, .pointer none, .pointer none] 146)) nd) (by simp) hb)
  have f1 := blk_frozen B0 1
  have d1 := blk_cell B0 1
  have lt1 : w.heap.size < w1.heap.size := blk_lt B0
  have HB0 := Go.Lib.hid B0
  clear hb B0
  cases r1 with
  | none =>
    obtain rfl : pv = none := by cases pv <;> simp_all
    go_wp2_with (fail)
    go_ret2
    exact ⟨none, rfl, rfl, below_set HB1.out (Nat.le_refl _)⟩
  | some u =>
    obtain ⟨p, rfl⟩ : ∃ p, pv = some p := by cases pv <;> simp_all
    go_wp2_with (fail)
    refine (HR2.out u _ rfl).mono ?_
    rintro e w2 ⟨pv2, rfl, hpv2, hb2⟩
    have B0 := blk_below (blk_put HB0.out 1 (.pointer (some p)) rfl) hb2
    have HB2 := Go.Lib.hid (below_then (below_set HB1.out (Nat.le_refl _)) (by have := HB1.out.size; simpa using this) hb2)
    have f2 := blk_frozen B0 2
    have d2 := blk_cell B0 2
    have lt2 : w.heap.size < w2.heap.size := blk_lt B0
    clear hb2 B0 f1 d1
    cases hrr : r2 u with
    | none =>
      (try rw [hrr] at hpv2)
      obtain rfl : pv2 = none := by cases pv2 <;> simp_all
      have EF := Go.Lib.hid (show (some u).bind r2 = none from hrr)
      clear hrr HR HR2
      go_wp2_with (fail)
      go_ret2
      (try rw [EF.out])
      exact ⟨none, rfl, rfl, below_set HB2.out (Nat.le_refl _)⟩
    | some x =>
      (try rw [hrr] at hpv2)
      obtain ⟨p2, rfl⟩ : ∃ p, pv2 = some p := by cases pv2 <;> simp_all
      have EF := Go.Lib.hid (show (some u).bind r2 = some x from hrr)
      clear hrr HR HR2
      go_wp2_with (fail)
      go_ret2
      (try rw [EF.out])
      exact ⟨some ⟨w.heap.size, 0, none⟩, rfl, rfl, below_set HB2.out (Nat.le_refl _)⟩


theorem rt_lt : ∀ (k : Nat) (t : ByteArray) (a : Nat) (u : ByteArray), rt k t a = some u → u.size < t.size
  | 0, t, a, u, h => by simp [rt] at h
  | k + 1, t, a, u, h => by
    simp only [rt] at h
    by_cases h0 : t.size = 0
    · rw [if_pos h0] at h; cases h
    · rw [if_neg h0] at h
      have hs := extract_size t (by omega)
      split at h
      · obtain rfl := Option.some.inj h
        omega
      · split at h
        · split at h
          · cases h
          · obtain ⟨v, hv, hu⟩ := Option.bind_eq_some_iff.mp h
            have h1 := rt_lt k _ _ _ hv
            have h2 := rt_lt k _ _ _ hu
            omega
        · cases h

theorem or_lt_32 {a v : Nat} (ha : a < 32) (hv : v < 5) : a ||| 2 ^ v < 32 := by
  have : 2 ^ v < 2 ^ 5 := Nat.pow_lt_pow_right (by decide) hv
  exact Nat.or_lt_two_pow (n := 5) ha this

theorem readTree_calls : ∀ (k : Nat) (t : ByteArray) (a : Nat) (w : World), a < 32 → t.size < k → Calls Try.prog 124 #[.string t, .int .i64 (a : Int)] w (RP (rt k t a) w) := by
  intro k
  induction k with
  | zero => intro t a w _ h; omega
  | succ k ih =>
    intro t a w ha h
    simp only [rt]
    by_cases h0 : t.size = 0
    · rw [if_pos h0]
      exact readTree_empty t a w h0
    · have hp : 0 < t.size := by omega
      have hs := extract_size t hp
      have hx : ((t[0]'hp).toNat : Int) = bt t 0 := bt_at t 0 hp
      rw [if_neg h0]
      generalize hc : bt t 0 = c at hx
      clear hc
      by_cases hl : c = 48 ∨ c = 49
      · rw [if_pos hl]
        exact readTree_leaf t a w hp c hx hl
      · rw [if_neg hl]
        by_cases hc : 97 ≤ c ∧ c < 102
        · rw [if_pos hc]
          obtain ⟨v, hv⟩ : ∃ v : Nat, (c - 97).toNat = v := ⟨_, rfl⟩
          rw [hv]
          have hcv : c = 97 + (v : Int) := by omega
          rw [hcv] at hx
          by_cases hb : a.testBit v = true
          · rw [if_pos hb]
            exact readTree_asked t a v w hp ha (by omega) hx hb
          · rw [if_neg hb]
            have hlt := or_lt_32 ha (show v < 5 by omega)
            refine readTree_node t a v _ w hp ha (by omega) hx (by simpa using hb) rfl _ _ (fun W => ih _ _ W hlt (by omega)) ?_
            intro u W hu
            have := rt_lt _ _ _ _ hu
            exact ih u _ W hlt (by omega)
        · rw [if_neg hc]
          exact readTree_other t a w hp c hx hc (by rw [beq_eq_false_iff_ne]; omega) (by rw [beq_eq_false_iff_ne]; omega)

/-- is the whole text a tree -/
def wholeT (s : ByteArray) : Bool := wholeO (rt (s.size + 1) s 0)

set_option maxHeartbeats 1000000 in
set_option maxRecDepth 100000 in
theorem wholeTree_of (s : ByteArray) (w : World) (r : Option ByteArray) (hrec : ∀ W, Calls Try.prog 124 #[.string s, .int .i64 0] W (RP r W)) : Calls Try.prog 103 #[.string s] w (RF (wholeO r) w) := by
  have HR := Go.Lib.hid hrec
  clear hrec
  cases r with
  | none =>
    show Calls _ _ _ _ (RF false w)
    go_enter Try.func103, Try.ntmps103
    go_wp2_with (fail)
    refine (HR.out _).mono ?_
    rintro e w1 ⟨pv, rfl, hpv, hb⟩
    obtain rfl : pv = none := by cases pv <;> simp_all
    go_wp2_with (fail)
    go_ret2
    exact ⟨_, rfl, hb⟩
  | some u =>
    rcases Nat.eq_zero_or_pos u.size with hu | hu
    · have e1 := toList_of_zero hu
      rw [show wholeO (some u) = true from by show (u.size == 0) = true; rw [hu]; rfl]
      clear hu
      go_enter Try.func103, Try.ntmps103
      go_wp2_with (fail)
      refine (HR.out _).mono ?_
      rintro e w1 ⟨pv, rfl, hpv, hb⟩
      obtain ⟨a, rfl⟩ : ∃ a, pv = some a := by cases pv <;> simp_all
      go_wp2_with (fail)
      go_ret2
      exact ⟨_, rfl, hb⟩
    · have e1 := toList_of_pos hu
      rw [show wholeO (some u) = false from by show (u.size == 0) = false; rw [beq_eq_false_iff_ne]; omega]
      clear hu
      go_enter Try.func103, Try.ntmps103
      go_wp2_with (fail)
      refine (HR.out _).mono ?_
      rintro e w1 ⟨pv, rfl, hpv, hb⟩
      obtain ⟨a, rfl⟩ : ∃ a, pv = some a := by cases pv <;> simp_all
      go_wp2_with (fail)
      go_ret2
      exact ⟨_, rfl, hb⟩

def impl_IsTree.f (a0 : ByteArray) : Option Bool := some (wholeT a0)
set_option maxHeartbeats 1000000 in
theorem impl_IsTree.calls (a0 : ByteArray) (r : Bool) (w : World) (h : impl_IsTree.f a0 = some r) : Calls Try.prog 64 #[.string a0] w fun e w' => e = .returned (.bool r) ∧ Below w.heap.size w w' := by
  have HR := Go.Lib.hid (fun W => wholeTree_of a0 W _ (fun W => readTree_calls (a0.size + 1) a0 0 W (by decide) (by omega)))
  obtain rfl := Option.some.inj h
  clear h
  unfold wholeT
  generalize wholeO (rt (a0.size + 1) a0 0) = r at *
  go_enter Try.func64, Try.ntmps64
  go_wp2_with (go_at_call 103; refine (HR.out _).mono ?_; rintro e w1 ⟨pv, rfl, hb⟩)
  go_ret
  exact ⟨rfl, hb⟩
end Go.Proofs.Ytgkmgiojbiikgaa.P
