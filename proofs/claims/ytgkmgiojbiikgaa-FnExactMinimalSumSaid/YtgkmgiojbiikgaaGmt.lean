/- slices.ContainsFunc over rows of terms, the program's sumOf and areTerms: what each call comes to, in the form of the printed walks. No conditions but those that stand in the theorems. -/
import Derived.Test.YtgkmgiojbiikgaaP0
import Derived.Test.YtgkmgiojbiikgaaBits
import Derived.Test.YtgkmgiojbiikgaaGmb
import Derived.RegionTactic
import Derived.ChangeAlike
import Derived.OneCell
import Derived.Outline
import Derived.Lib.Hide
import Derived.Shelf.Abstract
import Derived.Test.YtgkmgiojbiikgaaPm0
import Derived.Test.YtgkmgiojbiikgaaPm1
namespace Go.Proofs.Ytgkmgiojbiikgaa.P
set_option linter.unusedVariables false
set_option linter.unusedSimpArgs false
open Go.RowKit Go.Proofs.Ytgkmgiojbiikgaa.Bits Go.Proofs.YtgkmgiojbiikgaaW.PrintWords Go.Proofs.YtgkmgiojbiikgaaW.PrintLast Go.Proofs.YtgkmgiojbiikgaaW.PrintMore

def PredT (g : Nat) (c0 : Value) (p : S28 → Bool) (l : List S28) (w : World) : Prop :=
  ∀ (x : S28) (W : World), x ∈ l → Below w.heap.size w W → Calls Try.prog g #[.agg #[.int .i64 x.f0, .int .i64 x.f1], c0] W fun e w' => e = .returned (.bool (p x)) ∧ Below W.heap.size W w'

def IdxP (p : S28 → Bool) (l : List S28) (w : World) (e : Ending) (w' : World) : Prop := (∃ r : Int, e = .returned (.int .i64 r) ∧ decide (0 ≤ r) = l.any p) ∧ Below w.heap.size w w'

theorem any_false_of {α : Type} (p : α → Bool) (l : List α) (h : ∀ x ∈ l, p x = false) : l.any p = false := by
  rw [Bool.eq_false_iff]
  intro q
  obtain ⟨x, hx, hp⟩ := List.any_eq_true.mp q
  rw [h x hx] at hp
  exact absurd hp (by decide)

theorem rd_mem {l : List S28} {k : Nat} (h : k < l.length) : rd_T28 l (k : Int) ∈ l := by
  unfold rd_T28
  rw [Int.toNat_natCast, List.getD_eq_getElem?_getD, List.getElem?_eq_getElem h]
  exact List.getElem_mem h

theorem any_of_rd {l : List S28} {p : S28 → Bool} {k : Nat} (h : k < l.length) (hp : p (rd_T28 l (k : Int)) = true) : l.any p = true :=
  List.any_eq_true.mpr ⟨_, rd_mem h, hp⟩

theorem none_of_rd {l : List S28} {p : S28 → Bool} (h : ∀ j, j < l.length → p (rd_T28 l (j : Int)) = false) : l.any p = false := by
  apply any_false_of
  intro x hx
  obtain ⟨j, hj, rfl⟩ := List.mem_iff_getElem.mp hx
  have := h j hj
  unfold rd_T28 at this
  rwa [Int.toNat_natCast, List.getD_eq_getElem?_getD, List.getElem?_eq_getElem hj] at this

set_option maxHeartbeats 1000000 in
set_option maxRecDepth 100000 in
theorem indexFunc_calls (g : Nat) (c0 : Value) (p : S28 → Bool) (eg : ∀ args w, (callFunc g args).run Try.prog w = .ok (.enter g args) w) (A : Option Addr) (c : Nat) (l : List S28) (w : World) (HR : Kd.C k28 w A l.length l) (hl : l.length ≤ 1152921504606846976) (hp : PredT g c0 p l w) :
    Calls Try.prog 133 #[.slice A l.length c, .func (.func g) #[] #[c0]] w (IdxP p l w) := by
  have HC := Go.Lib.hid HR
  have HP := Go.Lib.hid hp
  clear HR hp
  go_enter Try.func133, Try.ntmps133
  go_wp2_with (fail)
  go_loopw [5, 8] (fun v5 i wr => ∃ k : Nat, k ≤ l.length ∧ i = .int .i64 (k : Int) ∧ Aside0 (∀ j, j < k → p (rd_T28 l (j : Int)) = false) ∧ Aside0 (Below w.heap.size w wr)) (fun _ i _ => l.length - (intOf i).toNat)
  case atStart =>
    exact ⟨0, by omega, rfl, ⟨fun j hj => absurd hj (by omega)⟩, ⟨Below.refl _ _⟩⟩
  case round =>
    obtain ⟨k, hk, rfl, HN, HB⟩ := hrel
    by_cases hlt : k < l.length
    · obtain ⟨ad, rfl, h0, h1⟩ := at_T28 (Kd.C_below HC.out HB.out) (k : Int) (by omega) (by omega)
      have hm := rd_mem hlt
      have hcall := HP.out _ wr hm HB.out
      have HA := Go.Lib.hid (@any_of_rd l p k hlt)
      have HX : p (rd_T28 l (k : Int)) = true ∨ p (rd_T28 l (k : Int)) = false := by cases p (rd_T28 l (k : Int)) <;> simp
      generalize hx : rd_T28 l (k : Int) = x at h0 h1 hcall HX
      have HXX := Go.Lib.hid hx
      clear hx hm
      rw [Int.toNat_natCast] at h0 h1
      rcases HX with hq | hq
      · rw [hq] at hcall
        go_wp2_with (go_at_fn g; refine hcall.mono ?_; rintro e w' ⟨rfl, hb⟩)
        go_ret
        exact ⟨⟨(k : Int), rfl, by rw [HA.out (by rw [HXX.out]; exact hq)]; exact decide_eq_true (by omega)⟩, below_then HB.out HB.out.size hb⟩
      · rw [hq] at hcall
        go_wp2_with (go_at_fn g; refine hcall.mono ?_; rintro e w' ⟨rfl, hb⟩)
        go_roundw
        case rel =>
          refine ⟨k + 1, by omega, by go_num, ⟨fun j hj => ?_⟩, ⟨below_then HB.out HB.out.size hb⟩⟩
          by_cases e : j = k
          · subst e; rw [HXX.out]; exact hq
          · exact HN.out j (by omega)
        case measure => simp [intOf]; omega
    · obtain rfl : k = l.length := by omega
      go_wp2_with (fail)
      go_ret
      exact ⟨⟨-1, rfl, by rw [none_of_rd HN.out]; rfl⟩, HB.out⟩

set_option maxHeartbeats 1000000 in
set_option maxRecDepth 100000 in
theorem containsFunc_calls (g : Nat) (c0 : Value) (p : S28 → Bool) (eg : ∀ args w, (callFunc g args).run Try.prog w = .ok (.enter g args) w) (A : Option Addr) (c : Nat) (l : List S28) (w : World) (HR : Kd.C k28 w A l.length l) (hl : l.length ≤ 1152921504606846976) (hp : PredT g c0 p l w) :
    Calls Try.prog 114 #[.slice A l.length c, .func (.func g) #[] #[c0]] w fun e w' => e = .returned (.bool (l.any p)) ∧ Below w.heap.size w w' := by
  have hc := Go.Lib.hid (indexFunc_calls g c0 p eg A c l w HR hl hp)
  clear HR hp
  go_enter Try.func114, Try.ntmps114
  go_wp2_with (go_at_call 133; refine hc.out.mono ?_; rintro e w' ⟨⟨r, rfl, hr⟩, hb⟩; have HR := Go.Lib.hid hr; clear hr)
  go_ret
  exact ⟨ret_bool HR.out, hb⟩

end Go.Proofs.Ytgkmgiojbiikgaa.P
namespace Go.Proofs.Ytgkmgiojbiikgaa.P
set_option linter.unusedVariables false
set_option linter.unusedSimpArgs false
open Go.RowKit Go.Proofs.Ytgkmgiojbiikgaa.Bits Go.Proofs.YtgkmgiojbiikgaaW.PrintWords Go.Proofs.YtgkmgiojbiikgaaW.PrintLast Go.Proofs.YtgkmgiojbiikgaaW.PrintMore

set_option maxHeartbeats 1000000 in
set_option maxRecDepth 100000 in
theorem makeTable_sum (n : Int) (N : Nat) (h1 : N ≤ 32) (hN : ∀ W : World, Sem.run Try.prog (Op.shift BinOp.shl IntKind.i64 1 IntKind.i64 n) W = .ok (.int .i64 (N : Int)) W) (c0 : Value) (p : Nat → Bool) (w : World)
    (hcl : ∀ (k : Nat) (W : World), k < N → Below w.heap.size w W → Calls Try.prog 117 #[.int .i64 (k : Int), c0] W fun e w' => e = .returned (.bool (p k)) ∧ Below W.heap.size W w') :
    Calls Try.prog 116 #[.int .i64 n, .func (.func 117) #[] #[c0]] w fun e w' => e = .returned (.agg #[.int .i64 n, .int .i64 (wordOf p N : Nat)]) ∧ Below w.heap.size w w' := by
  have HC := Go.Lib.hid hcl
  clear hcl
  go_enter Try.func116, Try.ntmps116
  go_wp2
  go_loopw [6, 11] (fun v6 i wr => ∃ k : Nat, k ≤ N ∧ i = .int .i64 (k : Int) ∧ wr.heap[w.heap.size + 1]? = some (.cells #[.int .i64 n, .int .i64 (wordOf p k : Nat)] 34 (0, 0)) ∧ wr.heap[w.heap.size]? = some (.cells #[.int .i64 0, .int .i64 0] 34 (0, 0)) ∧ Below w.heap.size w wr) (fun _ i _ => N - (intOf i).toNat)
  case atStart =>
    refine ⟨0, by omega, rfl, ?_, ?_, ((Below.refl _ _).alloc (Nat.le_refl _) _).alloc (by simp) _⟩
    · simpa [wordOf] using heap_alloc_new (w.alloc (.cells #[.int .i64 0, .int .i64 0] 34)) (.cells #[.int .i64 n, .int .i64 0] 34)
    · exact (Below.heap_alloc _ _ _ (by simp)).trans (heap_alloc_new _ _)
  case round =>
    obtain ⟨k, hk, rfl, hb1, hb0, hB⟩ := hrel
    have HB1 := Go.Lib.hid hb1
    have HB0 := Go.Lib.hid hb0
    have HBB := Go.Lib.hid hB
    clear hb1 hb0 hB
    by_cases hlt : k < N
    · go_wp2_with (fail)
      refine (HC.out k wr hlt HBB.out).mono ?_
      rintro e w2 ⟨rfl, hb⟩
      have hs := shift_one k (by omega)
      have B1 : w2.heap[w.heap.size + 1]? = some (.cells #[.int .i64 n, .int .i64 (wordOf p k : Nat)] 34 (0, 0)) := (hb.block _ (blk_lt HB1.out)).trans HB1.out
      have c0 : w2.cell? ⟨w.heap.size + 1, 0, none⟩ = some (.int .i64 n) := blk_cell B1 0
      have c1 : w2.cell? ⟨w.heap.size + 1, 1, none⟩ = some (.int .i64 (wordOf p k : Nat)) := blk_cell B1 1
      have f1 : w2.frozen? ⟨w.heap.size + 1, 1, none⟩ = false := blk_frozen B1 1
      cases hp : p k
      · have HP := Go.Lib.hid hp
        clear hp
        go_wp2
        go_roundw
        case rel => exact ⟨k + 1, by omega, by go_num, by rw [B1]; simp only [wordOf, HP.out]; simp, (hb.block _ (blk_lt HB0.out)).trans HB0.out, below_then HBB.out HBB.out.size hb⟩
        case measure => simp [intOf]; omega
      · have HP := Go.Lib.hid hp
        clear hp
        go_wp2
        go_region
        go_wp2
        go_roundw
        case rel => exact ⟨k + 1, by omega, by go_num, blk_drew (blk_put B1 1 _ (by simp only [wordOf, HP.out, if_true]; rw [or_pow p k (by omega)]; rfl)), blk_drew (blk_far ((hb.block _ (blk_lt HB0.out)).trans HB0.out) (by simp) _), (below_set (below_then HBB.out HBB.out.size hb) (by simp)).drew⟩
        case measure => simp [intOf]; omega
    · have c0 : wr.cell? ⟨w.heap.size + 1, 0, none⟩ = some (.int .i64 n) := blk_cell HB1.out 0
      have c1 : wr.cell? ⟨w.heap.size + 1, 1, none⟩ = some (.int .i64 (wordOf p k : Nat)) := blk_cell HB1.out 1
      have f0 : wr.frozen? ⟨w.heap.size, 0, none⟩ = false := blk_frozen HB0.out 0
      have f1 : wr.frozen? ⟨w.heap.size, 1, none⟩ = false := blk_frozen HB0.out 1
      have d0 : wr.cell? ⟨w.heap.size, 0, none⟩ = some (.int .i64 0) := blk_cell HB0.out 0
      have d1 : wr.cell? ⟨w.heap.size, 1, none⟩ = some (.int .i64 0) := blk_cell HB0.out 1
      obtain rfl : k = N := by omega
      go_wp2
      refine bodyPost_ret (results_cell_row rfl _ _ w.heap.size 34 #[.int .i64 n, .int .i64 (wordOf p k : Nat)] (0, 0) _ rfl ?_ Try.underlying34 rfl (by kernel_rfl)) rfl ⟨rfl, ?_⟩
      · exact blk_put (blk_put (cs' := #[.int .i64 n, .int .i64 0]) HB0.out 0 _ rfl) 1 _ rfl
      · exact below_set (below_set HBB.out (Nat.le_refl _)) (Nat.le_refl _)


def holdsB (x : Int) (t : S28) : Bool := (bits .and .i64 x t.f0) == t.f1

set_option maxHeartbeats 400000 in
theorem sum11_calls (x : Int) (t : S28) (b : Nat) (W : World) (hc : W.cell? ⟨b, 0, none⟩ = some (.int .i64 x)) (hb : b < W.heap.size) :
    Calls Try.prog 118 #[.agg #[.int .i64 t.f0, .int .i64 t.f1], .pointer (some ⟨b, 0, none⟩)] W fun e w' => e = .returned (.bool (holdsB x t)) ∧ Below W.heap.size W w' := by
  have hne : b ≠ W.heap.size := by omega
  have HH := Go.Lib.hid (show impl_Term_holds.f t.f0 t.f1 x = some (holdsB x t) from rfl)
  generalize holdsB x t = r at *
  generalize t.f0 = m at *
  generalize t.f1 = v at *
  go_enter Try.func118, Try.ntmps118
  go_wp2_with (go_at_call 101; refine (impl_Term_holds.calls m v x r _ HH.out).mono ?_; rintro e w' ⟨rfl, hb⟩)
  go_ret
  exact ⟨rfl, below_then (below_alloc (Below.refl _ _) _) (by simp) hb⟩

set_option maxHeartbeats 1000000 in
theorem sum1_calls (A : Option Addr) (c : Nat) (l : List S28) (x b : Nat) (W : World) (HR : Kd.C k28 W A l.length l) (hl : l.length ≤ 1152921504606846976) (hb : b < W.heap.size) (hc : W.cell? ⟨b, 0, none⟩ = some (.slice A l.length c)) :
    Calls Try.prog 117 #[.int .i64 (x : Int), .pointer (some ⟨b, 0, none⟩)] W fun e w' => e = .returned (.bool (l.any (holdsB (x : Int)))) ∧ Below W.heap.size W w' := by
  have hne : b ≠ W.heap.size := by omega
  have hB1 : Below W.heap.size W (W.alloc (.cells #[.int .i64 (x : Int)] 3)) := below_alloc (Below.refl _ _) _
  have hpred : PredT 118 (.pointer (some ⟨W.heap.size, 0, none⟩)) (holdsB (x : Int)) l (W.alloc (.cells #[.int .i64 (x : Int)] 3)) := by
    intro t W1 _ hb1
    refine sum11_calls (x : Int) t W.heap.size W1 ?_ ?_
    · exact pw_cell_below hb1 (by go_simp)
    · have := hb1.size
      simp at this
      omega
  have HC := Go.Lib.hid (containsFunc_calls 118 (.pointer (some ⟨W.heap.size, 0, none⟩)) (holdsB (x : Int)) (fun args w => enters_of Try.func118 (by kernel_rfl) rfl args w) A c l _ (Kd.C_below HR hB1) hl hpred)
  have HB1 := Go.Lib.hid hB1
  have hmf : ∀ (fn : Fn) (first cap : Array Value) (w : World), (Instr.makeFunc fn first cap).run Try.prog w = .ok (.func fn first cap) w := fun _ _ _ _ => rfl
  clear HR hl hpred hB1
  generalize l.any (holdsB (x : Int)) = r at *
  go_enter Try.func117, Try.ntmps117
  go_wp2_with (go_at_call 114; refine HC.out.mono ?_; rintro e w' ⟨rfl, hb⟩)
  go_ret
  exact ⟨rfl, below_then HB1.out HB1.out.size hb⟩

def impl_sumOf.f (a0 : Int) (l1 : List S28) : Option (Int × Int) := if 0 ≤ a0 ∧ a0 ≤ 5 ∧ l1.length ≤ 1152921504606846976 then some (a0, (wordOf (fun x => l1.any (holdsB (x : Int))) (2 ^ a0.toNat) : Nat)) else none
set_option maxHeartbeats 1000000 in
set_option maxRecDepth 100000 in
theorem impl_sumOf.calls (a0 : Int) (A1 : Option Addr) (c1 : Nat) (l1 : List S28) (r1 : Int) (r2 : Int) (w : World) (hr1 : Kd.C k28 w A1 l1.length l1) (hc1 : l1.length ≤ c1) (h : impl_sumOf.f a0 l1 = some (r1, r2)) :
    Calls Try.prog 83 #[.int .i64 a0, .slice A1 l1.length c1] w fun e w' => e = .returned (.agg #[.int .i64 r1, .int .i64 r2]) ∧ Below w.heap.size w w' := by
  unfold impl_sumOf.f at h
  split at h
  · rename_i hh
    obtain ⟨g0, g1, g2⟩ := hh
    obtain ⟨n, rfl⟩ := Int.eq_ofNat_of_zero_le g0
    simp only [Option.some.injEq, Prod.mk.injEq, Int.toNat_natCast] at h
    obtain ⟨rfl, rfl⟩ := h
    have hN := shift_one n (by omega)
    have h32 : 2 ^ n ≤ 2 ^ 5 := Nat.pow_le_pow_right (by decide) (by omega)
    have HCR := Go.Lib.hid hr1
    have HC := Go.Lib.hid (fun W => makeTable_sum (n : Int) (2 ^ n) h32 hN (.pointer (some ⟨w.heap.size, 0, none⟩)) (fun x => l1.any (holdsB (x : Int))) W)
    have hmf : ∀ (fn : Fn) (first cap : Array Value) (w : World), (Instr.makeFunc fn first cap).run Try.prog w = .ok (.func fn first cap) w := fun _ _ _ _ => rfl
    have HL := Go.Lib.hid g2
    clear hN hr1 hc1 g2
    go_enter Try.func83, Try.ntmps83
    go_wp2_with (fail)
    refine (HC.out _ (fun k W hk hb => sum1_calls A1 c1 l1 k w.heap.size W ?_ HL.out ?_ ?_)).mono ?_
    · exact Kd.C_below (Kd.C_below (Kd.C_below HCR.out (below_alloc (Below.refl _ _) _)) (below_alloc (Below.refl _ _) _)) hb
    · have := hb.size
      simp at this
      omega
    · exact pw_cell_below hb (by go_simp)
    rintro e w2 ⟨rfl, hb⟩
    have B0 : w2.heap[w.heap.size + 1]? = some (.cells #[.int .i64 0, .int .i64 0] 34 (0, 0)) := blk_below (by simpa using blk_new (w.alloc (.cells #[.slice A1 l1.length c1] 45)) (.cells #[.int .i64 0, .int .i64 0] 34)) hb
    have f0 : w2.frozen? ⟨w.heap.size + 1, 0, none⟩ = false := blk_frozen B0 0
    have f1 : w2.frozen? ⟨w.heap.size + 1, 1, none⟩ = false := blk_frozen B0 1
    have d0 : w2.cell? ⟨w.heap.size + 1, 0, none⟩ = some (.int .i64 0) := blk_cell B0 0
    have d1 : w2.cell? ⟨w.heap.size + 1, 1, none⟩ = some (.int .i64 0) := blk_cell B0 1
    go_wp2
    refine bodyPost_ret (results_cell_row rfl _ _ (w.heap.size + 1) 34 #[.int .i64 (n : Int), .int .i64 (wordOf (fun x => l1.any (holdsB (x : Int))) (2 ^ n) : Nat)] (0, 0) _ rfl ?_ Try.underlying34 rfl (by kernel_rfl)) rfl ⟨rfl, ?_⟩
    · exact blk_put (blk_put (cs' := #[.int .i64 (n : Int), .int .i64 0]) B0 0 _ rfl) 1 _ rfl
    · exact below_set (below_set (below_then (((Below.refl _ _).alloc (Nat.le_refl _) _).alloc (by simp) _) (by simp; omega) hb) (by omega)) (by omega)
  · cases h
end Go.Proofs.Ytgkmgiojbiikgaa.P
namespace Go.Proofs.Ytgkmgiojbiikgaa.P
set_option linter.unusedVariables false
set_option linter.unusedSimpArgs false
open Go.RowKit Go.Proofs.Ytgkmgiojbiikgaa.Bits Go.Proofs.YtgkmgiojbiikgaaW.PrintWords Go.Proofs.YtgkmgiojbiikgaaW.PrintLast Go.Proofs.YtgkmgiojbiikgaaW.PrintMore

def isTmB (n : Int) (t : S28) : Bool := (impl_IsTerm.f n t.f0 t.f1).getD false
def noTmB (n : Int) (t : S28) : Bool := !isTmB n t

set_option maxHeartbeats 400000 in
theorem are1_calls (n : Int) (t : S28) (b : Nat) (W : World) (hc : W.cell? ⟨b, 0, none⟩ = some (.int .i64 n)) (hb : b < W.heap.size) (ht : (impl_IsTerm.f n t.f0 t.f1).isSome = true) :
    Calls Try.prog 115 #[.agg #[.int .i64 t.f0, .int .i64 t.f1], .pointer (some ⟨b, 0, none⟩)] W fun e w' => e = .returned (.bool (noTmB n t)) ∧ Below W.heap.size W w' := by
  have hne : b ≠ W.heap.size := by omega
  obtain ⟨r, hr⟩ := Option.isSome_iff_exists.mp ht
  have e : noTmB n t = !r := by
    unfold noTmB isTmB
    rw [hr]
    rfl
  rw [e]
  have HH := Go.Lib.hid hr
  clear ht hr e
  generalize t.f0 = m at *
  generalize t.f1 = v at *
  go_enter Try.func115, Try.ntmps115
  go_wp2_with (go_at_call 56; refine (impl_IsTerm.calls n m v r _ HH.out).mono ?_; rintro e w' ⟨rfl, hb⟩)
  go_ret
  exact ⟨rfl, below_then (below_alloc (Below.refl _ _) _) (by simp) hb⟩

def impl_areTerms.f (a0 : Int) (l1 : List S28) : Option Bool := if 0 ≤ a0 ∧ a0 ≤ 5 then (if l1.length ≤ 1152921504606846976 ∧ (l1.all fun t => (impl_IsTerm.f a0 t.f0 t.f1).isSome) = true then some (!l1.any (noTmB a0)) else none) else some false
set_option maxHeartbeats 1000000 in
set_option maxRecDepth 100000 in
theorem impl_areTerms.calls (a0 : Int) (A1 : Option Addr) (c1 : Nat) (l1 : List S28) (r : Bool) (w : World) (hr1 : Kd.C k28 w A1 l1.length l1) (hc1 : l1.length ≤ c1) (h : impl_areTerms.f a0 l1 = some r) :
    Calls Try.prog 82 #[.int .i64 a0, .slice A1 l1.length c1] w fun e w' => e = .returned (.bool r) ∧ Below w.heap.size w w' := by
  have hmf : ∀ (fn : Fn) (first cap : Array Value) (w : World), (Instr.makeFunc fn first cap).run Try.prog w = .ok (.func fn first cap) w := fun _ _ _ _ => rfl
  unfold impl_areTerms.f at h
  split at h
  · rename_i hh
    obtain ⟨g0, g1⟩ := hh
    split at h
    · rename_i hh
      obtain ⟨g2, g3⟩ := hh
      have hb0 : impl_isBits.f a0 = some true := by
        unfold impl_isBits.f
        rw [if_pos (by omega)]
        simp [g1]
      have HB0 := Go.Lib.hid hb0
      obtain rfl := Option.some.inj h
      have hB1 : Below w.heap.size w (w.alloc (.cells #[.int .i64 a0] 3)) := below_alloc (Below.refl _ _) _
      have HC := Go.Lib.hid (fun (W : World) (hW : Below (w.alloc (.cells #[.int .i64 a0] 3)).heap.size (w.alloc (.cells #[.int .i64 a0] 3)) W) => containsFunc_calls 115 (.pointer (some ⟨w.heap.size, 0, none⟩)) (noTmB a0) (fun args w => enters_of Try.func115 (by kernel_rfl) rfl args w) A1 c1 l1 W (Kd.C_below (Kd.C_below hr1 hB1) hW) g2 (by
        intro t W1 ht hb1
        have hWW := below_then hW hW.size hb1
        refine are1_calls a0 t w.heap.size W1 ?_ ?_ ?_
        · exact pw_cell_below hWW (by go_simp)
        · have := hWW.size
          simp at this
          omega
        · exact List.all_eq_true.mp g3 t ht))
      have HB1 := Go.Lib.hid hB1
      clear hr1 hc1 hb0 hB1 g3 h
      generalize l1.any (noTmB a0) = q at *
      go_enter Try.func82, Try.ntmps82
      go_wp2_with (first | (go_at_call 93; refine (impl_isBits.calls a0 true _ HB0.out).mono ?_; rintro e w' ⟨rfl, ⟨nd, rfl⟩⟩) | (go_at_call 114; refine (HC.out _ (pw_below_drewN (Below.refl _ _) _)).mono ?_; rintro e w' ⟨rfl, hb⟩))
      go_ret
      exact ⟨rfl, below_then (pw_below_drewN HB1.out _) (by simp) hb⟩
    · cases h
  · rename_i hh
    obtain rfl := Option.some.inj h
    have hb0 : impl_isBits.f a0 = some false := by
      unfold impl_isBits.f
      split
      · rw [decide_eq_false (by omega)]
      · rfl
    have HB0 := Go.Lib.hid hb0
    clear h hh hr1 hc1 hb0
    go_enter Try.func82, Try.ntmps82
    go_wp2_with (first | (go_at_call 93; refine (impl_isBits.calls a0 false _ HB0.out).mono ?_; rintro e w' ⟨rfl, ⟨nd, rfl⟩⟩))
    go_ret
    exact ⟨rfl, pw_below_drewN (below_alloc (Below.refl _ _) _) _⟩
end Go.Proofs.Ytgkmgiojbiikgaa.P
