/- The program's readPart, readFormula and IsFormula: what each call comes to. No conditions but those that stand in the theorems. -/
import Derived.Test.YtgkmgiojbiikgaaP0
import Derived.Test.YtgkmgiojbiikgaaBits
import Derived.Test.YtgkmgiojbiikgaaGmb
import Derived.RegionTactic
import Derived.ChangeAlike
import Derived.OneCell
import Derived.Outline
import Derived.Lib.Hide
import Derived.Shelf.Abstract
import Derived.Test.YtgkmgiojbiikgaaPz0
namespace Go.Proofs.Ytgkmgiojbiikgaa.P
set_option linter.unusedVariables false
set_option linter.unusedSimpArgs false
open Go.RowKit Go.Proofs.Ytgkmgiojbiikgaa.Bits Go.Proofs.YtgkmgiojbiikgaaW.PrintWords Go.Proofs.YtgkmgiojbiikgaaW.PrintLast Go.Proofs.YtgkmgiojbiikgaaW.PrintMore

def leafC (c : Int) : Bool := decide (97 ≤ c ∧ c < 102) || c == 48 || c == 49
def binC (c : Int) : Bool := c == 38 || c == 124 || c == 94
/-- what stands behind the formula at the beginning of a text; none if there is none -/
def rp : Nat → ByteArray → Option ByteArray
  | 0, _ => none
  | k + 1, t => if t.size = 0 then none else if leafC (bt t 0) = true then some (t.extract 1 t.size) else if bt t 0 = 33 then rp k (t.extract 1 t.size) else if binC (bt t 0) = true then (rp k (t.extract 1 t.size)).bind (rp k) else none

def RP (r : Option ByteArray) (w : World) (e : Ending) (w' : World) : Prop := ∃ pv : Option Addr, e = .returned (.tuple #[.pointer pv, .string (r.getD ⟨#[]⟩)]) ∧ pv.isSome = r.isSome ∧ Below w.heap.size w w'


theorem letter_yes (c : Int) (h : 97 ≤ c ∧ c < 102) : impl_isLetter.f c = some true := by
  unfold impl_isLetter.f
  rw [if_pos h.1, decide_eq_true h.2]
theorem letter_no (c : Int) (h : ¬ (97 ≤ c ∧ c < 102)) : impl_isLetter.f c = some false := by
  unfold impl_isLetter.f
  split
  · rw [decide_eq_false (by omega)]
  · rfl

theorem toList_of_pos {t : ByteArray} (h0 : 0 < t.size) : (t.toList == ([] : List UInt8)) = false := by
  rw [beq_eq_false_iff_ne]
  intro e
  rw [ByteArray.toList_eq] at e
  have : t.data.toList.length = t.size := by simp
  rw [e] at this
  simp at this
  omega
theorem toList_of_zero {t : ByteArray} (h0 : t.size = 0) : (t.toList == ([] : List UInt8)) = true := by
  rw [beq_iff_eq, ByteArray.toList_eq]
  exact List.eq_nil_of_length_eq_zero (by simpa using h0)

set_option maxHeartbeats 1000000 in
set_option maxRecDepth 100000 in
theorem readPart_empty (t : ByteArray) (w : World) (h0 : t.size = 0) : Calls Try.prog 107 #[.string t] w (RP none w) := by
  have e1 := toList_of_zero h0
  clear h0
  go_enter Try.func107, Try.ntmps107
  go_wp2_with (fail)
  go_ret2
  exact ⟨none, rfl, rfl, Below.refl _ _⟩

set_option maxHeartbeats 1000000 in
set_option maxRecDepth 100000 in
theorem readPart_leaf (t : ByteArray) (w : World) (h0 : 0 < t.size) (c : Int) (hx : ((t[0]'h0).toNat : Int) = c) (hc : (97 ≤ c ∧ c < 102) ∨ c = 48 ∨ c = 49) : Calls Try.prog 107 #[.string t] w (RP (some (t.extract 1 t.size)) w) := by
  have e1 := toList_of_pos h0
  have hz : (1 : Int) ≤ (t.size : Int) := by omega
  have hz0 : (0 : Int) < (t.size : Int) := by omega
  rcases hc with hc | rfl | rfl
  · have HL := Go.Lib.hid (letter_yes c hc)
    clear hc
    go_enter Try.func107, Try.ntmps107
    go_wp2_with (go_at_call 80; refine (impl_isLetter.calls c true _ HL.out).mono ?_; rintro e w' ⟨rfl, ⟨nd, rfl⟩⟩)
    go_ret2
    exact ⟨some ⟨w.heap.size, 0, none⟩, rfl, rfl, pw_below_drewN (below_alloc (Below.refl _ _) _) _⟩
  · have HL := Go.Lib.hid (letter_no 48 (by omega))
    go_enter Try.func107, Try.ntmps107
    go_wp2_with (go_at_call 80; refine (impl_isLetter.calls 48 false _ HL.out).mono ?_; rintro e w' ⟨rfl, ⟨nd, rfl⟩⟩)
    go_ret2
    exact ⟨some ⟨w.heap.size, 0, none⟩, rfl, rfl, pw_below_drewN (below_alloc (Below.refl _ _) _) _⟩
  · have HL := Go.Lib.hid (letter_no 49 (by omega))
    go_enter Try.func107, Try.ntmps107
    go_wp2_with (go_at_call 80; refine (impl_isLetter.calls 49 false _ HL.out).mono ?_; rintro e w' ⟨rfl, ⟨nd, rfl⟩⟩)
    go_ret2
    exact ⟨some ⟨w.heap.size, 0, none⟩, rfl, rfl, pw_below_drewN (below_alloc (Below.refl _ _) _) _⟩

set_option maxHeartbeats 1000000 in
set_option maxRecDepth 100000 in
theorem readPart_other (t : ByteArray) (w : World) (h0 : 0 < t.size) (c : Int) (hx : ((t[0]'h0).toNat : Int) = c) (hc : ¬ (97 ≤ c ∧ c < 102)) (q0 : (c == 48) = false) (q1 : (c == 49) = false) (q2 : (c == 33) = false) (q3 : (c == 38) = false) (q4 : (c == 124) = false) (q5 : (c == 94) = false) : Calls Try.prog 107 #[.string t] w (RP none w) := by
  have e1 := toList_of_pos h0
  have hz : (1 : Int) ≤ (t.size : Int) := by omega
  have hz0 : (0 : Int) < (t.size : Int) := by omega
  have HL := Go.Lib.hid (letter_no c hc)
  clear hc
  go_enter Try.func107, Try.ntmps107
  go_wp2_with (go_at_call 80; refine (impl_isLetter.calls c false _ HL.out).mono ?_; rintro e w' ⟨rfl, ⟨nd, rfl⟩⟩)
  go_ret2
  exact ⟨none, rfl, rfl, pw_below_drewN (below_alloc (Below.refl _ _) _) _⟩

set_option maxHeartbeats 1000000 in
set_option maxRecDepth 100000 in
theorem readPart_not (t : ByteArray) (w : World) (h0 : 0 < t.size) (hx : ((t[0]'h0).toNat : Int) = 33) (r1 : Option ByteArray) (hrec : ∀ W, Calls Try.prog 107 #[.string (t.extract 1 t.size)] W (RP r1 W)) : Calls Try.prog 107 #[.string t] w (RP r1 w) := by
  have e1 := toList_of_pos h0
  have hz : (1 : Int) ≤ (t.size : Int) := by omega
  have hz0 : (0 : Int) < (t.size : Int) := by omega
  have HL := Go.Lib.hid (letter_no 33 (by omega))
  have HR := Go.Lib.hid hrec
  clear hrec
  go_enter Try.func107, Try.ntmps107
  go_wp2_with (go_at_call 80; refine (impl_isLetter.calls 33 false _ HL.out).mono ?_; rintro e w' ⟨rfl, ⟨nd, rfl⟩⟩)
  refine (HR.out _).mono ?_
  rintro e w1 ⟨pv, rfl, hpv, hb⟩
  have B0 := blk_below (g := w.heap.size) (o := .cells #[.int .u8 33, .pointer none, .pointer none] 136 (0, 0)) (blk_drewN (heap_alloc_new w (.cells #[.int .u8 33, .pointer none, .pointer none] 136)) nd) hb
  have HB1 := Go.Lib.hid (below_then (pw_below_drewN (below_alloc (Below.refl w.heap.size w) (.cells #[.int .u8 33, .pointer none, .pointer none] 136)) nd) (by simp) hb)
  have f1 := blk_frozen B0 1
  have d1 := blk_cell B0 1
  have lt1 : w.heap.size < w1.heap.size := blk_lt B0
  clear hb B0
  cases r1 with
  | none =>
    obtain rfl : pv = none := by cases pv <;> simp_all
    go_wp2_with (fail)
    go_ret2
    exact ⟨none, rfl, rfl, below_set HB1.out (Nat.le_refl _)⟩
  | some u =>
    obtain ⟨a, rfl⟩ : ∃ a, pv = some a := by cases pv <;> simp_all
    go_wp2_with (fail)
    go_ret2
    exact ⟨some ⟨w.heap.size, 0, none⟩, rfl, rfl, below_set HB1.out (Nat.le_refl _)⟩

set_option maxHeartbeats 2000000 in
set_option maxRecDepth 100000 in
theorem readPart_bin (t : ByteArray) (w : World) (h0 : 0 < t.size) (c : Int) (hx : ((t[0]'h0).toNat : Int) = c) (hc : ¬ (97 ≤ c ∧ c < 102)) (q0 : (c == 48) = false) (q1 : (c == 49) = false) (q2 : (c == 33) = false) (q3 : c = 38 ∨ c = 124 ∨ c = 94) (r1 : Option ByteArray) (r2 : ByteArray → Option ByteArray) (hrec : ∀ W, Calls Try.prog 107 #[.string (t.extract 1 t.size)] W (RP r1 W)) (hrec2 : ∀ u W, r1 = some u → Calls Try.prog 107 #[.string u] W (RP (r2 u) W)) : Calls Try.prog 107 #[.string t] w (RP (r1.bind r2) w) := by
  have e1 := toList_of_pos h0
  have hz : (1 : Int) ≤ (t.size : Int) := by omega
  have hz0 : (0 : Int) < (t.size : Int) := by omega
  have HL := Go.Lib.hid (letter_no c hc)
  have HR := Go.Lib.hid hrec
  have HR2 := Go.Lib.hid hrec2
  clear hrec hrec2 hc
  rcases q3 with rfl | rfl | rfl
  all_goals
    go_enter Try.func107, Try.ntmps107
    go_wp2_with (go_at_call 80; refine (impl_isLetter.calls _ false _ HL.out).mono ?_; rintro e w' ⟨rfl, ⟨nd, rfl⟩⟩)
    refine (HR.out _).mono ?_
    rintro e w1 ⟨pv, rfl, hpv, hb⟩
    have B0 := blk_below (g := w.heap.size) (blk_drewN (heap_alloc_new w (.cells #[.int .u8 _, .pointer none, .pointer none] 136)) nd) hb
    have HB1 := Go.Lib.hid (below_then (pw_below_drewN (below_alloc (Below.refl w.heap.size w) (.cells #[.int .u8 _, .pointer none, .pointer none] 136)) nd) (by simp) hb)
    have f1 := blk_frozen B0 1
    have d1 := blk_cell B0 1
    have lt1 : w.heap.size < w1.heap.size := blk_lt B0
    have HB0 := Go.Lib.hid B0
    clear hb B0
    cases r1 with
    | none =>
      obtain rfl : pv = none := by cases pv <;> simp_all
      go_wp2_with (fail)
      go_ret2
      exact ⟨none, rfl, rfl, below_set HB1.out (Nat.le_refl _)⟩
    | some u =>
      obtain ⟨a, rfl⟩ : ∃ a, pv = some a := by cases pv <;> simp_all
      go_wp2_with (fail)
      refine (HR2.out u _ rfl).mono ?_
      rintro e w2 ⟨pv2, rfl, hpv2, hb2⟩
      have B0 := blk_below (blk_put HB0.out 1 (.pointer (some a)) rfl) hb2
      have HB2 := Go.Lib.hid (below_then (below_set HB1.out (Nat.le_refl _)) (by have := HB1.out.size; simpa using this) hb2)
      have f2 := blk_frozen B0 2
      have d2 := blk_cell B0 2
      have lt2 : w.heap.size < w2.heap.size := blk_lt B0
      clear hb2 B0 f1 d1
      cases hrr : r2 u with
      | none =>
        (try rw [hrr] at hpv2)
        obtain rfl : pv2 = none := by cases pv2 <;> simp_all
        have EF := Go.Lib.hid (show (some u).bind r2 = none from hrr)
        clear hrr HR HR2
        go_wp2_with (fail)
        go_ret2
        (try rw [EF.out])
        exact ⟨none, rfl, rfl, below_set HB2.out (Nat.le_refl _)⟩
      | some v =>
        (try rw [hrr] at hpv2)
        obtain ⟨a2, rfl⟩ : ∃ a, pv2 = some a := by cases pv2 <;> simp_all
        have EF := Go.Lib.hid (show (some u).bind r2 = some v from hrr)
        clear hrr HR HR2
        go_wp2_with (fail)
        go_ret2
        (try rw [EF.out])
        exact ⟨some ⟨w.heap.size, 0, none⟩, rfl, rfl, below_set HB2.out (Nat.le_refl _)⟩

theorem extract_size (t : ByteArray) (h0 : 0 < t.size) : (t.extract 1 t.size).size = t.size - 1 := by
  rw [ByteArray.size_extract]
  omega

theorem rp_lt : ∀ (k : Nat) (t u : ByteArray), rp k t = some u → u.size < t.size
  | 0, t, u, h => by simp [rp] at h
  | k + 1, t, u, h => by
    simp only [rp] at h
    by_cases h0 : t.size = 0
    · rw [if_pos h0] at h; cases h
    · rw [if_neg h0] at h
      have hs := extract_size t (by omega)
      split at h
      · obtain rfl := Option.some.inj h
        omega
      · split at h
        · have := rp_lt k _ _ h
          omega
        · split at h
          · obtain ⟨v, hv, hu⟩ := Option.bind_eq_some_iff.mp h
            have h1 := rp_lt k _ _ hv
            have h2 := rp_lt k _ _ hu
            omega
          · cases h

theorem readPart_calls : ∀ (k : Nat) (t : ByteArray) (w : World), t.size < k → Calls Try.prog 107 #[.string t] w (RP (rp k t) w) := by
  intro k
  induction k with
  | zero => intro t w h; omega
  | succ k ih =>
    intro t w h
    simp only [rp]
    by_cases h0 : t.size = 0
    · rw [if_pos h0]
      exact readPart_empty t w h0
    · have hp : 0 < t.size := by omega
      have hs := extract_size t hp
      have hx : ((t[0]'hp).toNat : Int) = bt t 0 := bt_at t 0 hp
      rw [if_neg h0]
      generalize hc : bt t 0 = c at hx
      clear hc
      by_cases hl : leafC c = true
      · rw [if_pos hl]
        refine readPart_leaf t w hp c hx ?_
        unfold leafC at hl
        simp only [Bool.or_eq_true, decide_eq_true_eq, beq_iff_eq] at hl
        omega
      · rw [if_neg hl]
        unfold leafC at hl
        simp only [Bool.or_eq_true, decide_eq_true_eq, beq_iff_eq] at hl
        have hnl : ¬ (97 ≤ c ∧ c < 102) := by omega
        have q0 : (c == 48) = false := by rw [beq_eq_false_iff_ne]; omega
        have q1 : (c == 49) = false := by rw [beq_eq_false_iff_ne]; omega
        by_cases h33 : c = 33
        · rw [if_pos h33]
          subst h33
          exact readPart_not t w hp hx _ (fun W => ih _ W (by omega))
        · rw [if_neg h33]
          have q2 : (c == 33) = false := by rw [beq_eq_false_iff_ne]; omega
          by_cases hb : binC c = true
          · rw [if_pos hb]
            unfold binC at hb
            simp only [Bool.or_eq_true, beq_iff_eq] at hb
            refine readPart_bin t w hp c hx hnl q0 q1 q2 (by omega) _ (rp k) (fun W => ih _ W (by omega)) ?_
            intro u W hu
            have := rp_lt _ _ _ hu
            exact ih u W (by omega)
          · rw [if_neg hb]
            unfold binC at hb
            simp only [Bool.or_eq_true, beq_iff_eq] at hb
            exact readPart_other t w hp c hx hnl q0 q1 q2 (by rw [beq_eq_false_iff_ne]; omega) (by rw [beq_eq_false_iff_ne]; omega) (by rw [beq_eq_false_iff_ne]; omega)

/-- is nothing left -/
def wholeO : Option ByteArray → Bool
  | none => false
  | some u => u.size == 0
/-- is the whole text a formula -/
def wholeF (s : ByteArray) : Bool := wholeO (rp (s.size + 1) s)

def RF (b : Bool) (w : World) (e : Ending) (w' : World) : Prop := ∃ pv : Option Addr, e = .returned (.tuple #[.pointer pv, .bool b]) ∧ Below w.heap.size w w'

set_option maxHeartbeats 1000000 in
set_option maxRecDepth 100000 in
theorem readFormula_small (s : ByteArray) (w : World) (r : Option ByteArray) (h1 : decide ((60 : Int) < (s.size : Int)) = false) (hrec : ∀ W, Calls Try.prog 107 #[.string s] W (RP r W)) : Calls Try.prog 68 #[.string s] w (RF (wholeO r) w) := by
  have HR := Go.Lib.hid hrec
  clear hrec
  cases r with
  | none =>
    show Calls _ _ _ _ (RF false w)
    go_enter Try.func68, Try.ntmps68
    go_wp2_with (fail)
    refine (HR.out _).mono ?_
    rintro e w1 ⟨pv, rfl, hpv, hb⟩
    obtain rfl : pv = none := by cases pv <;> simp_all
    go_wp2_with (fail)
    go_ret2
    exact ⟨_, rfl, hb⟩
  | some u =>
    rcases Nat.eq_zero_or_pos u.size with hu | hu
    · have e1 := toList_of_zero hu
      rw [show wholeO (some u) = true from by show (u.size == 0) = true; rw [hu]; rfl]
      clear hu
      go_enter Try.func68, Try.ntmps68
      go_wp2_with (fail)
      refine (HR.out _).mono ?_
      rintro e w1 ⟨pv, rfl, hpv, hb⟩
      obtain ⟨a, rfl⟩ : ∃ a, pv = some a := by cases pv <;> simp_all
      go_wp2_with (fail)
      go_ret2
      exact ⟨_, rfl, hb⟩
    · have e1 := toList_of_pos hu
      rw [show wholeO (some u) = false from by show (u.size == 0) = false; rw [beq_eq_false_iff_ne]; omega]
      clear hu
      go_enter Try.func68, Try.ntmps68
      go_wp2_with (fail)
      refine (HR.out _).mono ?_
      rintro e w1 ⟨pv, rfl, hpv, hb⟩
      obtain ⟨a, rfl⟩ : ∃ a, pv = some a := by cases pv <;> simp_all
      go_wp2_with (fail)
      go_ret2
      exact ⟨_, rfl, hb⟩

set_option maxHeartbeats 1000000 in
set_option maxRecDepth 100000 in
theorem readFormula_calls (s : ByteArray) (w : World) : Calls Try.prog 68 #[.string s] w (RF (decide (s.size ≤ 60) && wholeF s) w) := by
  by_cases hs : s.size ≤ 60
  · rw [decide_eq_true hs, Bool.true_and]
    exact readFormula_small s w _ (decide_eq_false (by omega)) (fun W => readPart_calls (s.size + 1) s W (by omega))
  · have h1 : decide ((60 : Int) < (s.size : Int)) = true := decide_eq_true (by omega)
    rw [decide_eq_false hs, Bool.false_and]
    clear hs
    go_enter Try.func68, Try.ntmps68
    go_wp2_with (fail)
    go_ret2
    exact ⟨_, rfl, Below.refl _ _⟩

def impl_IsFormula.f (a0 : ByteArray) : Option Bool := some (decide (a0.size ≤ 60) && wholeF a0)
set_option maxHeartbeats 1000000 in
theorem impl_IsFormula.calls (a0 : ByteArray) (r : Bool) (w : World) (h : impl_IsFormula.f a0 = some r) : Calls Try.prog 19 #[.string a0] w fun e w' => e = .returned (.bool r) ∧ Below w.heap.size w w' := by
  have HR := Go.Lib.hid (fun W => readFormula_calls a0 W)
  obtain rfl := Option.some.inj h
  clear h
  generalize (decide (a0.size ≤ 60) && wholeF a0) = r at *
  go_enter Try.func19, Try.ntmps19
  go_wp2_with (go_at_call 68; refine (HR.out _).mono ?_; rintro e w1 ⟨pv, rfl, hb⟩)
  go_ret
  exact ⟨rfl, hb⟩
end Go.Proofs.Ytgkmgiojbiikgaa.P
