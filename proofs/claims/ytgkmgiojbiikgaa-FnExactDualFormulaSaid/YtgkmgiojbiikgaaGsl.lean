/- strings.Count, Contains, ContainsAny in the form of the printed walks, and the program's DualFormula: what each call comes to. No conditions but those that stand in the theorems. -/
import Derived.Test.YtgkmgiojbiikgaaP0
import Derived.Test.YtgkmgiojbiikgaaBits
import Derived.Test.YtgkmgiojbiikgaaGmb
import Derived.Test.YtgkmgiojbiikgaaGif
import Derived.Test.YtgkmgiojbiikgaaShf
import Derived.RegionTactic
import Derived.ChangeAlike
import Derived.OneCell
import Derived.Outline
import Derived.Lib.Hide
import Derived.Shelf.Abstract
import Derived.Lib.ConvBytes
import Derived.Test.YtgkmgiojbiikgaaGif
import Derived.Test.YtgkmgiojbiikgaaPv1
namespace Go.Proofs.Ytgkmgiojbiikgaa.P
set_option linter.unusedVariables false
set_option linter.unusedSimpArgs false
open Go.RowKit Go.Proofs.Ytgkmgiojbiikgaa.Bits Go.Proofs.YtgkmgiojbiikgaaW.PrintWords Go.Proofs.YtgkmgiojbiikgaaW.PrintLast Go.Proofs.YtgkmgiojbiikgaaW.PrintMore

def oneByte (s : ByteArray) : Option UInt8 := match s.data.toList with
  | [c] => some c
  | _ => none
theorem oneByte_is {s : ByteArray} {c : UInt8} (h : oneByte s = some c) : s = ⟨#[c]⟩ := by
  unfold oneByte at h
  split at h
  · rename_i d e
    obtain rfl := Option.some.inj h
    apply ByteArray.ext
    exact Array.ext' (by simpa using e)
  · cases h

def strings_Count.f (a0 a1 : ByteArray) : Option Int := (oneByte a1).bind fun c => some (Lib.countByte a0.data.toList c)
theorem strings_Count.calls (a0 a1 : ByteArray) (r : Int) (w : World) (h : strings_Count.f a0 a1 = some r) : Calls Try.prog 69 #[.string a0, .string a1] w fun e w' => e = .returned (.int .i64 r) ∧ Drawn0 w w' := by
  obtain ⟨c, hc, hr⟩ := Option.bind_eq_some_iff.mp h
  obtain rfl := oneByte_is hc
  obtain rfl := Option.some.inj hr
  refine (Try.strings_Count_one a0 c w).mono ?_
  rintro e w' ⟨rfl, rfl⟩
  exact ⟨rfl, Drawn0.refl _⟩

def strings_Contains.f (a0 a1 : ByteArray) : Option Bool := (oneByte a1).bind fun c => some (decide (0 ≤ Lib.indexByte a0.data.toList c))
theorem strings_Contains.calls (a0 a1 : ByteArray) (r : Bool) (w : World) (h : strings_Contains.f a0 a1 = some r) : Calls Try.prog 70 #[.string a0, .string a1] w fun e w' => e = .returned (.bool r) ∧ Drawn0 w w' := by
  obtain ⟨c, hc, hr⟩ := Option.bind_eq_some_iff.mp h
  obtain rfl := oneByte_is hc
  obtain rfl := Option.some.inj hr
  refine (Try.strings_Contains_one a0 c w).mono ?_
  rintro e w' ⟨rfl, rfl⟩
  exact ⟨rfl, Drawn0.refl _⟩

def asciiB (s : ByteArray) : Bool := s.data.toList.all fun b => decide (b.toNat < 128)
theorem ascii_at {s : ByteArray} (h : asciiB s = true) (j : Nat) (b : UInt8) (hb : s.data.toList[j]? = some b) : b.toNat < 128 :=
  of_decide_eq_true (List.all_eq_true.mp h b (List.mem_of_getElem? hb))
def strings_ContainsAny.f (a0 a1 : ByteArray) : Option Bool := if a0.size < 4294967281 ∧ a1.size < 4294967281 ∧ asciiB a0 = true ∧ asciiB a1 = true then some (Lib.containsAny a0.data.toList a1.data.toList) else none
theorem strings_ContainsAny.calls (a0 a1 : ByteArray) (r : Bool) (w : World) (h : strings_ContainsAny.f a0 a1 = some r) : Calls Try.prog 72 #[.string a0, .string a1] w fun e w' => e = .returned (.bool r) ∧ Below w.heap.size w w' := by
  unfold strings_ContainsAny.f at h
  split at h
  · rename_i hh
    obtain ⟨h1, h2, h3, h4⟩ := hh
    obtain rfl := Option.some.inj h
    exact Try.strings_ContainsAny_laid a0 a1 w h1 h2 (ascii_at h3) (ascii_at h4)
  · cases h

def othC (c : Int) : Int := if c = 38 then 124 else if c = 124 then 38 else if c = 48 then 49 else if c = 49 then 48 else c
theorem other_is (c : Int) : impl_other.f c = some (othC c) := by
  unfold impl_other.f othC
  repeat' split
  all_goals rfl

def dualAt (s : ByteArray) (k j : Nat) : Int := if j < k then othC (bt s (j : Int)) else bt s (j : Int)
def DualRow (s : ByteArray) (B T k : Nat) (w : World) : Prop := ∃ C : Array Value, w.heap[B]? = some (.cells C T (C.size, C.size + 1)) ∧ s.size ≤ C.size ∧ ∀ j, j < s.size → C[j]? = some (.int .u8 (dualAt s k j))

theorem DualRow.cell {s : ByteArray} {B T k : Nat} {w : World} (h : DualRow s B T k w) {j : Nat} (hj : j < s.size) : w.cell? ⟨B, j, none⟩ = some (.int .u8 (dualAt s k j)) := by
  obtain ⟨C, h1, h2, h3⟩ := h
  rw [cell_of_row w B j C T _ h1]
  exact h3 j hj
theorem DualRow.free {s : ByteArray} {B T k : Nat} {w : World} (h : DualRow s B T k w) {j : Nat} (hj : j < s.size) : w.frozen? ⟨B, j, none⟩ = false := by
  obtain ⟨C, h1, h2, h3⟩ := h
  simp only [World.frozen?, h1]
  rw [decide_eq_false (by omega)]
  rfl
theorem DualRow.put {s : ByteArray} {B T k : Nat} {w : World} (h : DualRow s B T k w) (hk : k < s.size) : DualRow s B T (k + 1) (w.setCell ⟨B, k, none⟩ (.int .u8 (othC (bt s (k : Int))))) := by
  obtain ⟨C, h1, h2, h3⟩ := h
  refine ⟨C.setIfInBounds k (.int .u8 (othC (bt s (k : Int)))), ?_, by simpa using h2, fun j hj => ?_⟩
  · simp [World.setCell, Array.getElem?_modify, h1]
  · rw [Array.getElem?_setIfInBounds]
    by_cases e : k = j
    · subst e
      rw [if_pos rfl, if_pos (by omega)]
      unfold dualAt
      rw [if_pos (by omega)]
    · rw [if_neg e, h3 j hj]
      unfold dualAt
      by_cases h : j < k
      · rw [if_pos h, if_pos (by omega)]
      · rw [if_neg h, if_neg (by omega)]
theorem DualRow.drawn {s : ByteArray} {B T k : Nat} {w : World} (h : DualRow s B T k w) (n : Nat) : DualRow s B T k (w.drewN n) := h
theorem DualRow.made (s : ByteArray) (T : Nat) (w : World) : DualRow s w.heap.size T 0 (Lib.bytesWorld w T s) := by
  refine ⟨Lib.bytesCells w T s, Lib.bytesWorld_at_new w T s, ?_, fun j hj => ?_⟩
  · unfold Lib.bytesCells
    simp
  · have h := Lib.bytesWorld_cell w T s j hj
    rw [cell_of_row _ _ j _ T _ (Lib.bytesWorld_at_new w T s)] at h
    rw [h]
    unfold dualAt
    rw [if_neg (by omega)]
    have e : (j : Int).toNat < s.size := by rw [Int.toNat_natCast]; exact hj
    have h' : j < s.data.toList.length := by simpa using hj
    unfold bt
    rw [dif_pos e]
    congr 3
    rw [List.getD_eq_getElem?_getD, List.getElem?_eq_getElem h']
    simp only [Int.toNat_natCast, Option.getD_some, Array.getElem_toList]
    rfl

def dualL (s : ByteArray) : List Int := (List.range s.size).map fun (j : Nat) => othC (bt s (j : Int))
def impl_DualFormula.f (a0 : ByteArray) : Option (ByteArray × Bool) := if a0.size ≤ 281474976710656 then (if (decide (a0.size ≤ 60) && wholeF a0) = true then (if decide (0 ≤ Lib.indexByte a0.data.toList 94) = true then some (⟨#[]⟩, false) else some (strOfNums (dualL a0), true)) else some (⟨#[]⟩, false)) else none

set_option maxHeartbeats 1000000 in
set_option maxRecDepth 100000 in
theorem impl_DualFormula.calls (a0 : ByteArray) (r1 : ByteArray) (r2 : Bool) (w : World) (h : impl_DualFormula.f a0 = some (r1, r2)) : Calls Try.prog 23 #[.string a0] w fun e w' => e = .returned (.tuple #[.string r1, .bool r2]) ∧ Below w.heap.size w w' := by
  unfold impl_DualFormula.f at h
  split at h
  · rename_i hbig
    have HI := Go.Lib.hid (show impl_IsFormula.f a0 = some (decide (a0.size ≤ 60) && wholeF a0) from rfl)
    have HC := Go.Lib.hid (Try.strings_Contains_one a0 94)
    generalize (decide (a0.size ≤ 60) && wholeF a0) = b1 at *
    generalize decide (0 ≤ Lib.indexByte a0.data.toList 94) = b2 at *
    split at h
    · rename_i hb1
      subst hb1
      split at h
      · rename_i hb2
        subst hb2
        obtain ⟨rfl, rfl⟩ := Prod.mk.inj (Option.some.inj h)
        clear h hbig
        go_enter Try.func23, Try.ntmps23
        go_wp2_with (first | (go_at_call 19; refine (impl_IsFormula.calls a0 true _ HI.out).mono ?_; rintro e w1 ⟨rfl, hb⟩) | (go_at_call 70; refine (HC.out _).mono ?_; rintro e w2 ⟨rfl, rfl⟩))
        go_ret2
        exact ⟨rfl, hb⟩
      · rename_i hb2
        obtain rfl : b2 = false := by simpa using hb2
        obtain ⟨rfl, rfl⟩ := Prod.mk.inj (Option.some.inj h)
        have kb := fun W => print_bytes (P := Try.prog) 9 54 5 Try.underlying9 Try.underlying54 Try.underlying5 a0 W
        clear h hb2
        go_enter Try.func23, Try.ntmps23
        go_wp2_with (first | (go_at_call 19; refine (impl_IsFormula.calls a0 true _ HI.out).mono ?_; rintro e w1 ⟨rfl, hb⟩) | (go_at_call 70; refine (HC.out _).mono ?_; rintro e w2 ⟨rfl, rfl⟩))
        have D0 := Aside0.mk (DualRow.made a0 5 w2)
        have HB := Aside0.mk (bytes_below hb hb.size 5 a0)
        have hBw : w.heap.size ≤ w2.heap.size := hb.size
        clear hb kb HC HI
        generalize w2.heap.size = B at *
        generalize grownCap w2 a0.size 0 5 = cp at *
        generalize Lib.bytesWorld w2 5 a0 = W3 at *
        go_loopw [5, 6, 18] (fun v5 v6 i wr => ∃ k : Nat, k ≤ a0.size ∧ i = .int .i64 (k : Int) ∧ Aside0 (DualRow a0 B 5 k wr) ∧ Aside0 (Below w.heap.size w wr)) (fun _ _ i _ => a0.size - (intOf i).toNat)
        case atStart => exact ⟨0, by omega, rfl, D0, HB⟩
        case round =>
          obtain ⟨k, hk, rfl, HD, HBB⟩ := hrel
          clear D0 HB
          by_cases hlt : k < a0.size
          · have c0 := HD.out.cell hlt
            have f0 := HD.out.free hlt
            have ed : dualAt a0 k k = bt a0 (k : Int) := by unfold dualAt; rw [if_neg (by omega)]
            rw [ed] at c0
            have HP := Aside0.mk (fun n => (HD.out.drawn n).put hlt)
            have HO := Aside0.mk (other_is (bt a0 (k : Int)))
            clear ed HD
            generalize othC (bt a0 (k : Int)) = o at *
            generalize bt a0 (k : Int) = c at *
            go_wp2_with (go_at_call 71; refine (impl_other.calls c o _ HO.out).mono ?_; rintro e w' ⟨rfl, ⟨nd, rfl⟩⟩)
            go_roundw
            case rel => exact ⟨k + 1, by omega, by go_num, ⟨HP.out nd⟩, ⟨below_set (pw_below_drewN HBB.out nd) hBw⟩⟩
            case measure => simp [intOf]; omega
          · obtain rfl : k = a0.size := by omega
            have hconv := run_convert_bytes_arg (P := Try.prog) wr 54 5 Try.underlying54 Try.underlying5 B 0 a0.size cp (dualL a0) (by simp [dualL]) (fun i hi => by
              rw [Nat.zero_add, HD.out.cell hi]
              unfold dualAt dualL
              rw [if_pos hi, List.getD_eq_getElem?_getD, List.getElem?_map, List.getElem?_range hi]
              rfl) 9 Try.underlying9
            clear HD
            generalize hout : strOfNums (dualL a0) = out at hconv
            have HO := Aside0.mk hout
            clear hout
            go_wp2_with (fail)
            go_ret2
            exact ⟨by rw [HO.out]; rfl, HBB.out⟩
    · rename_i hb1
      obtain rfl : b1 = false := by simpa using hb1
      obtain ⟨rfl, rfl⟩ := Prod.mk.inj (Option.some.inj h)
      clear h hbig
      go_enter Try.func23, Try.ntmps23
      go_wp2_with (first | (go_at_call 19; refine (impl_IsFormula.calls a0 false _ HI.out).mono ?_; rintro e w1 ⟨rfl, hb⟩))
      go_ret2
      exact ⟨rfl, hb⟩
  · cases h
end Go.Proofs.Ytgkmgiojbiikgaa.P
