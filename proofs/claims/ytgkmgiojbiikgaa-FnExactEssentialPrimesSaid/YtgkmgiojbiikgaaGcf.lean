/- slices.IndexFunc and slices.ContainsFunc over rows of terms, for whatever predicate: what each call comes to. Conditions: those that stand in the theorems. -/
import Derived.Test.YtgkmgiojbiikgaaP0
import Derived.Test.YtgkmgiojbiikgaaBits
import Derived.Test.YtgkmgiojbiikgaaGmb
import Derived.RegionTactic
import Derived.ChangeAlike
import Derived.OneCell
import Derived.Outline
import Derived.Lib.Hide
import Derived.Shelf.Abstract

namespace Go.Proofs.Ytgkmgiojbiikgaa.P
set_option linter.unusedVariables false
set_option linter.unusedSimpArgs false
open Go.RowKit Go.Proofs.Ytgkmgiojbiikgaa.Bits Go.Proofs.YtgkmgiojbiikgaaW.PrintWords Go.Proofs.YtgkmgiojbiikgaaW.PrintLast Go.Proofs.YtgkmgiojbiikgaaW.PrintMore

def PredT (g : Nat) (c0 : Value) (p : S28 → Bool) (l : List S28) (w : World) : Prop :=
  ∀ (x : S28) (W : World), x ∈ l → Below w.heap.size w W → Calls Try.prog g #[.agg #[.int .i64 x.f0, .int .i64 x.f1], c0] W fun e w' => e = .returned (.bool (p x)) ∧ Below W.heap.size W w'

def IdxP (p : S28 → Bool) (l : List S28) (w : World) (e : Ending) (w' : World) : Prop := (∃ r : Int, e = .returned (.int .i64 r) ∧ decide (0 ≤ r) = l.any p) ∧ Below w.heap.size w w'

theorem any_false_of {α : Type} (p : α → Bool) (l : List α) (h : ∀ x ∈ l, p x = false) : l.any p = false := by
  rw [Bool.eq_false_iff]
  intro q
  obtain ⟨x, hx, hp⟩ := List.any_eq_true.mp q
  rw [h x hx] at hp
  exact absurd hp (by decide)

theorem rd_mem {l : List S28} {k : Nat} (h : k < l.length) : rd_T28 l (k : Int) ∈ l := by
  unfold rd_T28
  rw [Int.toNat_natCast, List.getD_eq_getElem?_getD, List.getElem?_eq_getElem h]
  exact List.getElem_mem h

theorem any_of_rd {l : List S28} {p : S28 → Bool} {k : Nat} (h : k < l.length) (hp : p (rd_T28 l (k : Int)) = true) : l.any p = true :=
  List.any_eq_true.mpr ⟨_, rd_mem h, hp⟩

theorem none_of_rd {l : List S28} {p : S28 → Bool} (h : ∀ j, j < l.length → p (rd_T28 l (j : Int)) = false) : l.any p = false := by
  apply any_false_of
  intro x hx
  obtain ⟨j, hj, rfl⟩ := List.mem_iff_getElem.mp hx
  have := h j hj
  unfold rd_T28 at this
  rwa [Int.toNat_natCast, List.getD_eq_getElem?_getD, List.getElem?_eq_getElem hj] at this

set_option maxHeartbeats 1000000 in
set_option maxRecDepth 100000 in
theorem indexFunc_calls (g : Nat) (c0 : Value) (p : S28 → Bool) (eg : ∀ args w, (callFunc g args).run Try.prog w = .ok (.enter g args) w) (A : Option Addr) (c : Nat) (l : List S28) (w : World) (HR : Kd.C k28 w A l.length l) (hl : l.length ≤ 1152921504606846976) (hp : PredT g c0 p l w) :
    Calls Try.prog 133 #[.slice A l.length c, .func (.func g) #[] #[c0]] w (IdxP p l w) := by
  have HC := Go.Lib.hid HR
  have HP := Go.Lib.hid hp
  clear HR hp
  go_enter Try.func133, Try.ntmps133
  go_wp2_with (fail)
  go_loopw [5, 8] (fun v5 i wr => ∃ k : Nat, k ≤ l.length ∧ i = .int .i64 (k : Int) ∧ Aside0 (∀ j, j < k → p (rd_T28 l (j : Int)) = false) ∧ Aside0 (Below w.heap.size w wr)) (fun _ i _ => l.length - (intOf i).toNat)
  case atStart =>
    exact ⟨0, by omega, rfl, ⟨fun j hj => absurd hj (by omega)⟩, ⟨Below.refl _ _⟩⟩
  case round =>
    obtain ⟨k, hk, rfl, HN, HB⟩ := hrel
    by_cases hlt : k < l.length
    · obtain ⟨ad, rfl, h0, h1⟩ := at_T28 (Kd.C_below HC.out HB.out) (k : Int) (by omega) (by omega)
      have hm := rd_mem hlt
      have hcall := HP.out _ wr hm HB.out
      have HA := Go.Lib.hid (@any_of_rd l p k hlt)
      have HX : p (rd_T28 l (k : Int)) = true ∨ p (rd_T28 l (k : Int)) = false := by cases p (rd_T28 l (k : Int)) <;> simp
      generalize hx : rd_T28 l (k : Int) = x at h0 h1 hcall HX
      have HXX := Go.Lib.hid hx
      clear hx hm
      rw [Int.toNat_natCast] at h0 h1
      rcases HX with hq | hq
      · rw [hq] at hcall
        go_wp2_with (go_at_fn g; refine hcall.mono ?_; rintro e w' ⟨rfl, hb⟩)
        go_ret
        exact ⟨⟨(k : Int), rfl, by rw [HA.out (by rw [HXX.out]; exact hq)]; exact decide_eq_true (by omega)⟩, below_then HB.out HB.out.size hb⟩
      · rw [hq] at hcall
        go_wp2_with (go_at_fn g; refine hcall.mono ?_; rintro e w' ⟨rfl, hb⟩)
        go_roundw
        case rel =>
          refine ⟨k + 1, by omega, by go_num, ⟨fun j hj => ?_⟩, ⟨below_then HB.out HB.out.size hb⟩⟩
          by_cases e : j = k
          · subst e; rw [HXX.out]; exact hq
          · exact HN.out j (by omega)
        case measure => simp [intOf]; omega
    · obtain rfl : k = l.length := by omega
      go_wp2_with (fail)
      go_ret
      exact ⟨⟨-1, rfl, by rw [none_of_rd HN.out]; rfl⟩, HB.out⟩

set_option maxHeartbeats 1000000 in
set_option maxRecDepth 100000 in
theorem containsFunc_calls (g : Nat) (c0 : Value) (p : S28 → Bool) (eg : ∀ args w, (callFunc g args).run Try.prog w = .ok (.enter g args) w) (A : Option Addr) (c : Nat) (l : List S28) (w : World) (HR : Kd.C k28 w A l.length l) (hl : l.length ≤ 1152921504606846976) (hp : PredT g c0 p l w) :
    Calls Try.prog 114 #[.slice A l.length c, .func (.func g) #[] #[c0]] w fun e w' => e = .returned (.bool (l.any p)) ∧ Below w.heap.size w w' := by
  have hc := Go.Lib.hid (indexFunc_calls g c0 p eg A c l w HR hl hp)
  clear HR hp
  go_enter Try.func114, Try.ntmps114
  go_wp2_with (go_at_call 133; refine hc.out.mono ?_; rintro e w' ⟨⟨r, rfl, hr⟩, hb⟩; have HR := Go.Lib.hid hr; clear hr)
  go_ret
  exact ⟨ret_bool HR.out, hb⟩

end Go.Proofs.Ytgkmgiojbiikgaa.P
