/- LeastDepth: the walk that remembers. No conditions but those that stand in the theorems. -/
import Derived.Test.YtekdidlaeljdjaaP0
import Derived.Test.YtekdidlaeljdjaaGmb
import Derived.Test.YtekdidlaeljdjaaGcu
import Derived.Test.YtekdidlaeljdjaaLed
import Derived.Test.YtekdidlaeljdjaaTbe
import Derived.Maps.OwnSet
import Derived.Maps.AppendAt
import Derived.DeepKeys4
import Derived.Lib.Hide
import Derived.RegionTactic
import Derived.Deep.RegionLaw
import Derived.Deep.RegionHeld3
import Derived.Test.YtekdidlaeljdjaaGcu
import Derived.Test.YtekdidlaeljdjaaPa0
namespace Go.Proofs.Ytekdidlaeljdjaa.P
set_option linter.unusedVariables false
set_option linter.unusedSimpArgs false
open Go.RowKit Go.Maps Go.Proofs.Ytekdidlaeljdjaa.Bits Go.Proofs.Ytekdidlaeljdjaa.Tab Go.Proofs.YtekdidlaeljdjaaW.PrintWords Go.Proofs.YtekdidlaeljdjaaW.PrintLast Go.Proofs.YtekdidlaeljdjaaW.PrintMore
attribute [local go_sem] max2_int min2_int max_two min_two
attribute [local go_sem] fld25_0 fld25_1

theorem laidOut : laidOutB Try.prog = true := by kernel_rfl
theorem key_wide : (match Try.prog.underlying 35 with | some (.array _ _) | some (.struct _) => true | _ => false) = true := by rw [Try.underlying35]
theorem key_law : WideMaps.KeyLaw Try.prog 35 := deep_law_laid laidOut (m := 2) (by omega) (of_decide_eq_true (by kernel_rfl)) (by kernel_rfl) key_wide
theorem keyed : Keyed Try.prog 35 := Keyed.of_law key_law
theorem zero_int (w : World) : (zeroValue 3).run Try.prog w = .ok (.int .i64 0) w := by kernel_rfl

abbrev knownV (m x : Nat) : Value := .agg #[.int .i64 (m : Int), .int .i64 (x : Int)]
theorem keys_all : ((List.range 16).all fun m => (List.range 16).all fun x => (keyOf Try.prog 35 (knownV m x)).isSome) = true := by kernel_rfl
noncomputable def keyL (m x : Nat) : Lit := (keyOf Try.prog 35 (knownV m x)).getD (.bool false)
theorem keyL_is (m x : Nat) (hm : m < 16) (hx : x < 16) : keyOf Try.prog 35 (knownV m x) = some (keyL m x) := by
  have h := List.all_eq_true.1 (List.all_eq_true.1 keys_all m (List.mem_range.2 hm)) x (List.mem_range.2 hx)
  unfold keyL
  obtain ⟨l, hl⟩ := Option.isSome_iff_exists.1 h
  rw [hl]
  rfl
theorem keyL_inj (m x m' x' : Nat) (hm : m < 16) (hx : x < 16) (hm' : m' < 16) (hx' : x' < 16) (h : keyL m x = keyL m' x') : m = m' ∧ x = x' := by
  have h1 := keyed.inj (keyL_is m x hm hx) (h ▸ keyL_is m' x' hm' hx')
  simp only [knownV, Value.agg.injEq, Array.mk.injEq, List.cons.injEq, Value.int.injEq, true_and, and_true] at h1
  exact ⟨by omega, by omega⟩
theorem keyL_key (m x : Nat) (hm : m < 16) (hx : x < 16) : WideAt.IsKeyLit (keyL m x) := keyed.key (keyL_is m x hm hx)

/-- What the map may hold: keys of few variables, each with its least depth. -/
def Memo (n v : Nat) (D : DataW Unit) : Prop :=
  (∃ es, D = .map es ∧ ∀ p ∈ es, ∃ m x, m < 16 ∧ x < 16 ∧ p.1 = keyL m x) ∧ ∀ m x, m < 2 ^ n → x < 2 ^ n → has D (keyL m x) = true → ∀ z, D.atKey (keyL m x) z = .lit (.int .i64 (leastF n v m x : Int))
theorem Memo.empty (n v : Nat) : Memo n v (.map [] : DataW Unit) := ⟨⟨[], rfl, fun p hp => absurd hp (by simp)⟩, fun m x _ _ h => by simp [has] at h⟩
theorem two16 {n : Nat} (hn : n ≤ 4) : 2 ^ n ≤ 16 := by
  have : n = 0 ∨ n = 1 ∨ n = 2 ∨ n = 3 ∨ n = 4 := by omega
  rcases this with rfl | rfl | rfl | rfl | rfl <;> decide
theorem Memo.put {n v : Nat} (hn : n ≤ 4) {D : DataW Unit} (h : Memo n v D) (m x : Nat) (hm : m < 2 ^ n) (hx : x < 2 ^ n) : Memo n v (D.put (keyL m x) (.lit (.int .i64 (leastF n v m x : Int)))) := by
  have h16 := two16 hn
  have hk := keyL_key m x (by omega) (by omega)
  constructor
  · obtain ⟨es, rfl, he⟩ := h.1
    refine ⟨_, rfl, fun p hp => ?_⟩
    rcases ChangeMaps.mem_insert_iff.1 hp with q | q
    · exact ⟨m, x, by omega, by omega, by rw [q]⟩
    · exact he p (List.mem_filter.1 q).1
  · intro m' x' hm' hx' hl z
    by_cases e : keyL m' x' = keyL m x
    · obtain ⟨rfl, rfl⟩ := keyL_inj m' x' m x (by omega) (by omega) (by omega) (by omega) e
      exact atKey_put_same (let ⟨es, e, _⟩ := h.1; ⟨es, e⟩) hk _ z
    · rw [has_put_other e] at hl
      rw [atKey_put_other e]
      exact h.2 m' x' hm' hx' hl z
theorem memo_size {n v : Nat} {D : DataW Unit} (hT : Tidy D) (h : Memo n v D) : Maps.size D ≤ 256 := by
  obtain ⟨es, rfl, hp⟩ := hT
  obtain ⟨es2, e2, he⟩ := h.1
  obtain rfl : es = es2 := by injection e2
  have hnd : (es.map (·.1)).Nodup := by
    unfold List.Nodup
    rw [List.pairwise_map]
    exact hp
  have hsub : (es.map (·.1)) ⊆ ((List.range 16).flatMap fun m => (List.range 16).map fun x => keyL m x) := by
    intro l hl
    obtain ⟨p, hp1, rfl⟩ := List.mem_map.1 hl
    obtain ⟨m, x, hm, hx, e⟩ := he p hp1
    rw [e]
    exact List.mem_flatMap.2 ⟨m, List.mem_range.2 hm, List.mem_map.2 ⟨x, List.mem_range.2 hx, rfl⟩⟩
  have := hnd.length_le_of_subset hsub
  rw [List.length_map] at this
  rw [size_eq]
  refine Nat.le_trans this ?_
  rw [List.length_flatMap]
  simp only [List.length_map, List.length_range]
  decide

abbrev Own (W : World) (M k : Nat) (D : DataW Unit) : Prop := W.ownsMap Try.prog 35 (plainElem Try.prog 3) M k D
theorem own_tight {W : World} {M k : Nat} {D : DataW Unit} (h : Own W M k D) (hs : Maps.size D ≤ 256) : Own W M 256 D := by
  obtain ⟨es, clock, hb, F, _, rfl⟩ := h
  refine ⟨es, clock, hb, F, ?_, rfl⟩
  simpa [Maps.size, length_sorted] using hs

/-- THE ASKER, AND ITS MAP. -/
def AskInv (n v a M : Nat) (u : Value) (W : World) : Prop :=
  W.heap[a]? = some (.cells #[.int .i64 (n : Int), .int .i64 (v : Int), .map (some M), u] 40 (0, 0)) ∧ ∃ D, Own W M 256 D ∧ Memo n v D
theorem AskInv.grown {n v a M : Nat} {u : Value} {W w' : World} (h : AskInv n v a M u W) (hg : W.grownBy w' none) : AskInv n v a M u w' := by
  obtain ⟨h1, D, h2, h3⟩ := h
  exact ⟨(hg.block a (Array.getElem?_eq_some_iff.1 h1).1 (by simp)).trans h1, D, h2.kept hg (by simp), h3⟩
theorem grown_below {W w' : World} (h : Below W.heap.size W w') (r : Option Nat) : W.grownBy w' r := ⟨h.os, h.tape, h.output, h.size, fun i hi _ => h.block i hi⟩
theorem AskInv.below {n v a M : Nat} {u : Value} {W w' : World} (h : AskInv n v a M u W) (hB : Below W.heap.size W w') : AskInv n v a M u w' := h.grown (grown_below hB none)
theorem AskInv.look {n v a M : Nat} {u : Value} {W : World} (hn : n ≤ 4) (h : AskInv n v a M u W) (m x : Nat) (hm : m < 2 ^ n) (hx : x < 2 ^ n) :
    ∃ (c : Int) (b : Bool), (b = true → c = (leastF n v m x : Int)) ∧ ∀ W', W'.heap = W.heap → (Instr.lookup 38 (.map (some M)) (knownV m x) true).run Try.prog W' = .ok (.tuple #[.int .i64 c, .bool b]) W' := by
  have h16 := two16 hn
  obtain ⟨-, D, h2, h3⟩ := h
  have hk := keyL_is m x (by omega) (by omega)
  have key : ∀ W', W'.heap = W.heap → ∃ c : Int, (Instr.lookup 38 (.map (some M)) (knownV m x) true).run Try.prog W' = .ok (.tuple #[.int .i64 c, .bool (has D (keyL m x))]) W' ∧ D.atKey (keyL m x) (.lit (.int .i64 0)) = .lit (.int .i64 c) := by
    intro W' hW
    have h2' : Own W' M 256 D := by
      obtain ⟨es, clock, hb, r⟩ := h2
      exact ⟨es, clock, by rw [hW]; exact hb, r⟩
    obtain ⟨z, ps, hrun, hz⟩ := h2'.look_ok keyed Try.underlying38 (zero_int W') (plainElem_int Try.underlying3 (by decide)) hk
    obtain ⟨c, rfl, hc, -⟩ := plainElem_int_inv Try.underlying3 hz
    exact ⟨c, hrun, congrArg Prod.fst hc⟩
  obtain ⟨c, -, hc⟩ := key W rfl
  refine ⟨c, has D (keyL m x), fun hb => ?_, fun W' hW => ?_⟩
  · have := h3.2 m x hm hx hb (.lit (.int .i64 0))
    rw [hc] at this
    injection this with q
    injection q
  · obtain ⟨c', hr, hc'⟩ := key W' hW
    rw [hc] at hc'
    injection hc' with q
    injection q with _ q
    rw [hr, q]
theorem AskInv.store {n v a M : Nat} {u : Value} {W : World} (hn : n ≤ 4) (haM : a ≠ M) (h : AskInv n v a M u W) (m x : Nat) (hm : m < 2 ^ n) (hx : x < 2 ^ n) :
    ∃ w', (Instr.mapUpdate 38 (.map (some M)) (knownV m x) (.int .i64 (leastF n v m x : Int))).run Try.prog W = .ok () w' ∧ AskInv n v a M u w' ∧ W.grownBy w' (some M) := by
  have h16 := two16 hn
  obtain ⟨h1, D, h2, h3⟩ := h
  have hk := keyL_is m x (by omega) (by omega)
  have hle := leastF_le n v hn _ m x hm rfl
  have hfr := free_le n hn m hm
  obtain ⟨w', hr, ho, hg⟩ := h2.update keyed Try.underlying38 (by unfold maxLen; omega) hk (plainElem_int (H := Unit) Try.underlying3 (a := (leastF n v m x : Int)) (by
    have h1 : IntKind.i64.min = -9223372036854775808 := by decide
    have h2 : IntKind.i64.max = 9223372036854775807 := by decide
    simp only [Lit.wf, h1, h2, Bool.and_eq_true, decide_eq_true_eq]
    omega))
  have hm2 := h3.put hn m x hm hx
  exact ⟨w', hr, ⟨(hg.block a (Array.getElem?_eq_some_iff.1 h1).1 (by simpa using haM)).trans h1, _, own_tight ho (memo_size (ho.tidy keyed) hm2), hm2⟩, hg⟩

set_option maxHeartbeats 4000000 in
set_option maxRecDepth 100000 in
theorem left_hit (n v a M : Nat) (u : Value) (m x : Nat) (W : World) (hI : AskInv n v a M u W) (c : Int) (hc : c = (leastF n v m x : Int))
    (hl : ∀ W', W'.heap = (W.alloc (.cells #[.int .i64 (m : Int), .int .i64 (x : Int)] 35)).heap → (Instr.lookup 38 (.map (some M)) (knownV m x) true).run Try.prog W' = .ok (.tuple #[.int .i64 c, .bool true]) W') :
    Calls Try.prog 11 #[.pointer (some ⟨a, 0, none⟩), knownV m x] W fun e w' => e = .returned (.int .i64 (leastF n v m x : Int)) ∧ AskInv n v a M u w' ∧ W.grownBy w' (some M) := by
  have HI := Aside0.mk hI
  have HC := Aside0.mk hc
  have hA := blk_alloc hI.1 (.cells #[.int .i64 (m : Int), .int .i64 (x : Int)] 35)
  have c2 : (W.alloc (.cells #[.int .i64 (m : Int), .int .i64 (x : Int)] 35)).cell? ⟨a, 2, none⟩ = some (.map (some M)) := blk_cell hA 2
  have l1 := hl (W.alloc (.cells #[.int .i64 (m : Int), .int .i64 (x : Int)] 35)) rfl
  have l2 := hl (W.alloc (.cells #[.int .i64 (m : Int), .int .i64 (x : Int)] 35)).drew rfl
  clear hI hc hA hl
  go_enter Try.func11, Try.ntmps11
  go_wp2_with (fail)
  go_region
  all_goals go_wp2_with (fail)
  all_goals go_ret
  all_goals exact ⟨by rw [HC.out]; rfl, HI.out.below (below_drew1 (below_alloc (Below.refl _ _) _)), grown_below (below_drew1 (below_alloc (Below.refl _ _) _)) _⟩

theorem known_with_at (m x k b : Nat) (hm : m < 16) (hx : x < 16) (hk : k < 4) (hb : b ≤ 1) : impl_known_with.f (m : Int) (x : Int) (k : Int) (b : Int) = some (((m ||| 2 ^ k : Nat) : Int), ((x ||| b * 2 ^ k : Nat) : Int)) := by
  have all : ∀ m : Fin 16, ∀ x : Fin 16, ∀ k : Fin 4, ∀ b : Fin 2, impl_known_with.f (m.val : Int) (x.val : Int) (k.val : Int) (b.val : Int) = some (((m.val ||| 2 ^ k.val : Nat) : Int), ((x.val ||| b.val * 2 ^ k.val : Nat) : Int)) := by decide +kernel
  exact all ⟨m, hm⟩ ⟨x, hx⟩ ⟨k, hk⟩ ⟨b, by omega⟩
theorem cube_at (n v m x : Nat) (hn : n ≤ 4) (hv : v ≤ 4294967296) (hm : m < 2 ^ n) (hx : x < 2 ^ n) : impl_Table_cube.f (n : Int) (v : Int) (m : Int) (x : Int) = some (cubeV v m x (2 ^ n)) := by
  have h16 := two16 hn
  unfold impl_Table_cube.f
  rw [if_pos ⟨by omega, by omega, by omega, by omega, by omega, by omega, by omega, by omega⟩]
  simp only [Int.toNat_natCast]

/-- What is kept while the walk of one key goes on. -/
def KeepW (n v a M : Nat) (u : Value) (m x : Nat) (W w' : World) : Prop := AskInv n v a M u w' ∧ W.grownBy w' (some M) ∧ w'.heap[W.heap.size]? = some (.cells #[.int .i64 (m : Int), .int .i64 (x : Int)] 35 (0, 0))
theorem keep_below {n v a M : Nat} {u : Value} {m x : Nat} {W w w' : World} (h : KeepW n v a M u m x W w) (hB : Below w.heap.size w w') : KeepW n v a M u m x W w' :=
  ⟨h.1.below hB, h.2.1.trans (grown_below hB _), (hB.block _ (Array.getElem?_eq_some_iff.1 h.2.2).1).trans h.2.2⟩
theorem keep_ask {n v a M : Nat} {u : Value} {m x : Nat} {W w w' : World} (h : KeepW n v a M u m x W w) (hM : M < W.heap.size) (hA : AskInv n v a M u w') (hg : w.grownBy w' (some M)) : KeepW n v a M u m x W w' :=
  ⟨hA, h.2.1.trans hg, (hg.block _ (Array.getElem?_eq_some_iff.1 h.2.2).1 (by simp; omega)).trans h.2.2⟩
theorem keep_start {n v a M : Nat} {u : Value} {m x : Nat} {W : World} (h : AskInv n v a M u W) : KeepW n v a M u m x W (W.alloc (.cells #[.int .i64 (m : Int), .int .i64 (x : Int)] 35)) :=
  ⟨h.below (below_alloc (Below.refl _ _) _), grown_below (below_alloc (Below.refl _ _) _) _, blk_new W _⟩
theorem keep_cells {n v a M : Nat} {u : Value} {m x : Nat} {W w : World} (h : KeepW n v a M u m x W w) : w.cell? ⟨W.heap.size, 0, none⟩ = some (.int .i64 (m : Int)) ∧ w.cell? ⟨W.heap.size, 1, none⟩ = some (.int .i64 (x : Int)) ∧ w.cell? ⟨a, 0, none⟩ = some (.int .i64 (n : Int)) ∧ w.cell? ⟨a, 1, none⟩ = some (.int .i64 (v : Int)) ∧ w.cell? ⟨a, 2, none⟩ = some (.map (some M)) :=
  ⟨blk_cell h.2.2 0, blk_cell h.2.2 1, blk_cell h.1.1 0, blk_cell h.1.1 1, blk_cell h.1.1 2⟩
/-- The store at the end of a key's walk. -/
theorem keep_store {n v a M : Nat} {u : Value} {m x : Nat} {W w : World} (hn : n ≤ 4) (haM : a ≠ M) (hm : m < 2 ^ n) (hx : x < 2 ^ n) (h : KeepW n v a M u m x W w) (r : Int) (hr : (leastF n v m x : Int) = r) :
    ∃ w', (Instr.mapUpdate 38 (.map (some M)) (knownV m x) (.int .i64 r)).run Try.prog w.drew = .ok () w' ∧ AskInv n v a M u w' ∧ W.grownBy w' (some M) := by
  subst hr
  have h2 := keep_below h (show Below w.heap.size w w.drew from below_drew1 (Below.refl _ _))
  obtain ⟨w', h3, h4, h5⟩ := h2.1.store hn haM m x hm hx
  exact ⟨w', h3, h4, h2.2.1.trans h5⟩

theorem keep_S {n v a M : Nat} {u : Value} {m x : Nat} {W w : World} (h : KeepW n v a M u m x W w) : w.cell? ⟨W.heap.size, 0, none⟩ = some (.int .i64 (m : Int)) ∧ w.cell? ⟨W.heap.size, 1, none⟩ = some (.int .i64 (x : Int)) ∧ w.cell? ⟨a, 0, none⟩ = some (.int .i64 (n : Int)) ∧ w.cell? ⟨a, 1, none⟩ = some (.int .i64 (v : Int)) ∧ w.cell? ⟨a, 2, none⟩ = some (.map (some M)) ∧ Aside0 (KeepW n v a M u m x W w) := by
  obtain ⟨h0, h1, h2, h3, h4⟩ := keep_cells h
  exact ⟨h0, h1, h2, h3, h4, ⟨h⟩⟩

set_option maxHeartbeats 4000000 in
set_option maxRecDepth 100000 in
theorem left_flat (n v a M : Nat) (u : Value) (hn : n ≤ 4) (hv : v ≤ 4294967296) (haM : a ≠ M) (m x : Nat) (hm : m < 2 ^ n) (hx : x < 2 ^ n) (W : World) (hI : AskInv n v a M u W) (c : Int) (hno : ¬ cubeV v m x (2 ^ n) = 2)
    (hl : ∀ W', W'.heap = (W.alloc (.cells #[.int .i64 (m : Int), .int .i64 (x : Int)] 35)).heap → (Instr.lookup 38 (.map (some M)) (knownV m x) true).run Try.prog W' = .ok (.tuple #[.int .i64 c, .bool false]) W') :
    Calls Try.prog 11 #[.pointer (some ⟨a, 0, none⟩), knownV m x] W fun e w' => e = .returned (.int .i64 (leastF n v m x : Int)) ∧ AskInv n v a M u w' ∧ W.grownBy w' (some M) := by
  have hz : (leastF n v m x : Int) = 0 := by
    rw [leastF_eq n v m x hn hm, if_neg hno]
    rfl
  have HZ := Aside0.mk hz
  have HK := Aside0.mk (keep_below (keep_start (m := m) (x := x) hI) (show Below (W.alloc (.cells #[.int .i64 (m : Int), .int .i64 (x : Int)] 35)).heap.size (W.alloc (.cells #[.int .i64 (m : Int), .int .i64 (x : Int)] 35)) (W.alloc (.cells #[.int .i64 (m : Int), .int .i64 (x : Int)] 35)).drew from below_drew1 (Below.refl _ _)))
  have HCu := Aside0.mk (fun W' => impl_Table_cube.calls (n : Int) (v : Int) (m : Int) (x : Int) _ W' (cube_at n v m x hn hv hm hx))
  have HSt := Aside0.mk (fun w (h : KeepW n v a M u m x W w) => keep_store hn haM hm hx h 0 hz)
  generalize cubeV v m x (2 ^ n) = r at HCu hno
  have hno1 : (r == 2) = false := by rw [beq_eq_false_iff_ne]; exact hno
  have z2 : (W.alloc (.cells #[.int .i64 (m : Int), .int .i64 (x : Int)] 35)).cell? ⟨a, 2, none⟩ = some (.map (some M)) := (keep_cells (keep_start (m := m) (x := x) hI)).2.2.2.2
  have l1 := hl (W.alloc (.cells #[.int .i64 (m : Int), .int .i64 (x : Int)] 35)) rfl
  have l2 := hl (W.alloc (.cells #[.int .i64 (m : Int), .int .i64 (x : Int)] 35)).drew rfl
  clear hI hl hz hm hx hv hn
  go_enter Try.func11, Try.ntmps11
  go_wp2_with (fail)
  go_region
  clear l1 l2 z2
  go_wp2_with (fail)
  generalize (W.alloc (.cells #[.int .i64 (m : Int), .int .i64 (x : Int)] 35)).drew = W1 at *
  obtain ⟨y0, y1, y2, y3, y4⟩ := keep_cells HK.out
  have hS0 := Aside0.mk (keep_below HK.out (show Below W1.heap.size W1 W1.drew from below_drew1 (Below.refl _ _)))
  go_region_held3 (fun w' => w'.cell? ⟨W.heap.size, 0, none⟩ = some (.int .i64 (m : Int)) ∧ w'.cell? ⟨W.heap.size, 1, none⟩ = some (.int .i64 (x : Int)) ∧ w'.cell? ⟨a, 0, none⟩ = some (.int .i64 (n : Int)) ∧ w'.cell? ⟨a, 1, none⟩ = some (.int .i64 (v : Int)) ∧ w'.cell? ⟨a, 2, none⟩ = some (.map (some M)) ∧ Aside0 (KeepW n v a M u m x W w'))
    (first | exact keep_S hS0.out | go_keep | (go_split_ands; exact keep_S (keep_below (Aside0.out (by assumption)) hb4)))
    (first | (go_at_call 15; refine (HCu.out _).mono ?_; rintro e w4 ⟨rfl, hb4⟩))
  have SB : Aside0 (KeepW n v a M u m x W w4) := by first | assumption | (go_split_ands; assumption)
  obtain ⟨b0, b1, d0, d1, d2⟩ := keep_cells SB.out
  obtain ⟨w6, hr6, hI6, hg6⟩ := HSt.out w4 SB.out
  have HI6 := Aside0.mk hI6
  have HG6 := Aside0.mk hg6
  clear hI6 hg6
  go_wp2_with (fail)
  go_region
  go_wp2_with (fail)
  go_ret
  exact ⟨by rw [HZ.out]; rfl, HI6.out, HG6.out⟩
set_option maxHeartbeats 4000000 in
set_option maxRecDepth 100000 in
theorem left_tree (n v a M : Nat) (u : Value) (hn : n ≤ 4) (hv : v ≤ 4294967296) (haM : a ≠ M) (m x : Nat) (hm : m < 2 ^ n) (hx : x < 2 ^ n) (W : World) (hI : AskInv n v a M u W) (c : Int) (hyes : cubeV v m x (2 ^ n) = 2) (ih : ∀ m' y W', m' < 2 ^ n → y < 2 ^ n → freeTo m' n + 1 = freeTo m n → AskInv n v a M u W' → Calls Try.prog 11 #[.pointer (some ⟨a, 0, none⟩), knownV m' y] W' fun e w' => e = .returned (.int .i64 (leastF n v m' y : Int)) ∧ AskInv n v a M u w' ∧ W'.grownBy w' (some M))
    (hl : ∀ W', W'.heap = (W.alloc (.cells #[.int .i64 (m : Int), .int .i64 (x : Int)] 35)).heap → (Instr.lookup 38 (.map (some M)) (knownV m x) true).run Try.prog W' = .ok (.tuple #[.int .i64 c, .bool false]) W') :
    Calls Try.prog 11 #[.pointer (some ⟨a, 0, none⟩), knownV m x] W fun e w' => e = .returned (.int .i64 (leastF n v m x : Int)) ∧ AskInv n v a M u w' ∧ W.grownBy w' (some M) := by
  have hz : leastF n v m x = bestTo (leastF n v) m x n n := by
    rw [leastF_eq n v m x hn hm, if_pos hyes]
  have HZ := Aside0.mk hz
  have h16 := two16 hn
  have hcb : impl_Table_cube.f (n : Int) (v : Int) (m : Int) (x : Int) = some 2 := by rw [cube_at n v m x hn hv hm hx, hyes]
  have HK := Aside0.mk (keep_below (keep_start (m := m) (x := x) hI) (show Below (W.alloc (.cells #[.int .i64 (m : Int), .int .i64 (x : Int)] 35)).heap.size (W.alloc (.cells #[.int .i64 (m : Int), .int .i64 (x : Int)] 35)) (W.alloc (.cells #[.int .i64 (m : Int), .int .i64 (x : Int)] 35)).drew from below_drew1 (Below.refl _ _)))
  have HCu := Aside0.mk (fun W' => impl_Table_cube.calls (n : Int) (v : Int) (m : Int) (x : Int) 2 W' hcb)
  have HSt := Aside0.mk (fun w (h : KeepW n v a M u m x W w) => keep_store hn haM hm hx h ((bestTo (leastF n v) m x n n : Nat) : Int) (by rw [hz]))
  have HL := Aside0.mk (fun (k : Nat) (hk : k < n) (hb : m.testBit k = false) (y : Nat) (hy : y < 2 ^ n) W' (h : KeepW n v a M u m x W W') => ih (m ||| 2 ^ k) y W' (free_step n hn m hm k hk hb).2 hy (free_step n hn m hm k hk hb).1 h.1)
  have HX := Aside0.mk (fun (k : Nat) (hk : k < n) => (⟨known_with_at m x k 0 (by omega) (by omega) (by omega) (by omega), known_with_at m x k 1 (by omega) (by omega) (by omega) (by omega), Nat.or_lt_two_pow hx (Nat.pow_lt_pow_right (by decide) hk)⟩ : _ ∧ _ ∧ x ||| 2 ^ k < 2 ^ n))
  have HP := Aside0.mk (fun (k : Nat) (hk : k < n) (hb : m.testBit k = false) (y : Nat) => Nat.le_trans (leastF_le n v hn _ (m ||| 2 ^ k) y (free_step n hn m hm k hk hb).2 rfl) (free_le n hn _ (free_step n hn m hm k hk hb).2))
  have HBt := Aside0.mk (fun (k : Nat) (hk : k < n) => (show Go.bits .and .i64 ((m : Int) / 2 ^ k) 1 = ((m.testBit k).toNat : Int) by have h := bit_is (w := (m : Int)) (x := (k : Int)) (by omega) (by omega) (by omega) (by omega); simpa only [Int.toNat_natCast] using h))
  have HMW := Aside0.mk (show M < W.heap.size from by obtain ⟨-, D, ho, -⟩ := hI; exact ho.lt)
  have HXx := Aside0.mk hx
  have z2 : (W.alloc (.cells #[.int .i64 (m : Int), .int .i64 (x : Int)] 35)).cell? ⟨a, 2, none⟩ = some (.map (some M)) := (keep_cells (keep_start (m := m) (x := x) hI)).2.2.2.2
  have l1 := hl (W.alloc (.cells #[.int .i64 (m : Int), .int .i64 (x : Int)] 35)) rfl
  have l2 := hl (W.alloc (.cells #[.int .i64 (m : Int), .int .i64 (x : Int)] 35)).drew rfl
  clear hI hl hz hm hx hv hcb hyes ih h16
  go_enter Try.func11, Try.ntmps11
  go_wp2_with (fail)
  go_region
  clear l1 l2 z2
  go_wp2_with (fail)
  generalize (W.alloc (.cells #[.int .i64 (m : Int), .int .i64 (x : Int)] 35)).drew = W1 at *
  obtain ⟨y0, y1, y2, y3, y4⟩ := keep_cells HK.out
  have hS0 := Aside0.mk (keep_below HK.out (show Below W1.heap.size W1 W1.drew from below_drew1 (Below.refl _ _)))
  go_region_held3 (fun w' => w'.cell? ⟨W.heap.size, 0, none⟩ = some (.int .i64 (m : Int)) ∧ w'.cell? ⟨W.heap.size, 1, none⟩ = some (.int .i64 (x : Int)) ∧ w'.cell? ⟨a, 0, none⟩ = some (.int .i64 (n : Int)) ∧ w'.cell? ⟨a, 1, none⟩ = some (.int .i64 (v : Int)) ∧ w'.cell? ⟨a, 2, none⟩ = some (.map (some M)) ∧ Aside0 (KeepW n v a M u m x W w'))
    (first | exact keep_S hS0.out | go_keep | (go_split_ands; exact keep_S (keep_below (Aside0.out (by assumption)) hb4)))
    (first | (go_at_call 15; refine (HCu.out _).mono ?_; rintro e w4 ⟨rfl, hb4⟩))
  have SB : Aside0 (KeepW n v a M u m x W w4) := by first | assumption | (go_split_ands; assumption)
  obtain ⟨b0, b1, d0, d1, d2⟩ := keep_cells SB.out
  clear HK hS0 y0 y1 y2 y3 y4
  go_wp2_with (fail)
  go_loopw [7, 40] (fun best i wr => ∃ k : Nat, k ≤ n ∧ i = .int .i64 (k : Int) ∧ best = .int .i64 ((bestTo (leastF n v) m x n k : Nat) : Int) ∧ Aside0 (KeepW n v a M u m x W wr)) (fun _ i _ => n - (intOf i).toNat)
  case atStart => exact ⟨0, by omega, rfl, rfl, SB⟩
  case round =>
    obtain ⟨k, hk, rfl, rfl, HKr⟩ := hrel
    clear SB b0 b1 d0 d1 d2
    obtain ⟨b0, b1, d0, d1, d2⟩ := keep_cells HKr.out
    by_cases hlt : k < n
    · have hbit := HBt.out k hlt
      obtain ⟨hw0, hw1, hx1⟩ := HX.out k hlt
      have hcn := (bestTo_le (leastF n v) m x n k).1
      have HS1 := Aside0.mk (show bestTo (leastF n v) m x n (k + 1) = stepL (leastF n v) m x (bestTo (leastF n v) m x n k) k from rfl)
      cases hb : m.testBit k
      · rw [hb] at hbit
        have hp0 := HP.out k hlt hb x
        have hp1 := HP.out k hlt hb (x ||| 2 ^ k)
        have L0 := Aside0.mk (HL.out k hlt hb x HXx.out)
        have L1 := Aside0.mk (HL.out k hlt hb (x ||| 2 ^ k) hx1)
        rw [Nat.zero_mul, Nat.or_zero] at hw0
        rw [Nat.one_mul] at hw1
        have HS2 := Aside0.mk (show bestTo (leastF n v) m x n (k + 1) = min (bestTo (leastF n v) m x n k) (1 + max (leastF n v (m ||| 2 ^ k) x) (leastF n v (m ||| 2 ^ k) (x ||| 2 ^ k))) by
          rw [HS1.out]
          unfold stepL
          rw [if_neg (by rw [hb]; decide)])
        clear HS1 hx1
        generalize leastF n v (m ||| 2 ^ k) x = p0 at *
        generalize leastF n v (m ||| 2 ^ k) (x ||| 2 ^ k) = p1 at *
        generalize x ||| 2 ^ k = x1 at *
        generalize m ||| 2 ^ k = m1 at *
        generalize bestTo (leastF n v) m x n k = bc at *
        have HW0 := Aside0.mk (fun W' => impl_known_with.calls (m : Int) (x : Int) (k : Int) 0 _ _ W' hw0)
        have HW1 := Aside0.mk (fun W' => impl_known_with.calls (m : Int) (x : Int) (k : Int) 1 _ _ W' hw1)
        clear hw0 hw1
        have hbit2 : (Go.bits .and .i64 ((m : Int) / 2 ^ k) 1 == 0) = true := by rw [hbit]; rfl
        clear hbit
        go_wp2_with (fail)
        have hS0 := Aside0.mk (keep_below HKr.out (show Below wr.heap.size wr wr.drew from below_drew1 (Below.refl _ _)))
        go_region_held3 (fun w' => w'.cell? ⟨W.heap.size, 0, none⟩ = some (.int .i64 (m : Int)) ∧ w'.cell? ⟨W.heap.size, 1, none⟩ = some (.int .i64 (x : Int)) ∧ w'.cell? ⟨a, 0, none⟩ = some (.int .i64 (n : Int)) ∧ w'.cell? ⟨a, 1, none⟩ = some (.int .i64 (v : Int)) ∧ w'.cell? ⟨a, 2, none⟩ = some (.map (some M)) ∧ Aside0 (KeepW n v a M u m x W w'))
          (first | exact keep_S hS0.out | go_keep | (go_split_ands; first | exact keep_S (keep_below (Aside0.out (by assumption)) hb4) | exact keep_S (keep_ask (Aside0.out (by assumption)) HMW.out hA4 hg4)))
          (first | (go_at_call 16; first | ((with_reducible refine (HW0.out _).mono ?_); rintro e w4 ⟨rfl, hb4⟩) | ((with_reducible refine (HW1.out _).mono ?_); rintro e w4 ⟨rfl, hb4⟩)) | (go_at_call 11; first | ((with_reducible refine (L0.out _ (by go_split_ands; exact Aside0.out (by assumption))).mono ?_); rintro e w4 ⟨rfl, hA4, hg4⟩) | ((with_reducible refine (L1.out _ (by go_split_ands; exact Aside0.out (by assumption))).mono ?_); rintro e w4 ⟨rfl, hA4, hg4⟩)))
        have SB : Aside0 (KeepW n v a M u m x W w4) := by first | assumption | (go_split_ands; assumption)
        have hwr : IntKind.i64.wrap (1 + if p0 < p1 then (p1 : Int) else (p0 : Int)) = ((1 + max p0 p1 : Nat) : Int) := by
          rw [show (1 + if p0 < p1 then (p1 : Int) else (p0 : Int)) = ((1 + max p0 p1 : Nat) : Int) by split <;> omega]
          exact wrap_nat _ (Nat.lt_of_le_of_lt (show 1 + max p0 p1 ≤ 5 by omega) (by decide))
        have hmn : (if ((1 + max p0 p1 : Nat) : Int) < (bc : Int) then ((1 + max p0 p1 : Nat) : Int) else (bc : Int)) = ((min bc (1 + max p0 p1) : Nat) : Int) := by split <;> omega
        rw [hwr, hmn, ← HS2.out]
        clear hwr hmn
        go_wp2_with (fail)
        go_roundw
        case rel => exact ⟨k + 1, by omega, by go_num, rfl, SB⟩
        case measure => simp [intOf]; omega
      · rw [hb] at hbit
        have hbit2 : (Go.bits .and .i64 ((m : Int) / 2 ^ k) 1 == 0) = false := by rw [hbit]; rfl
        have HS2 := Aside0.mk (show bestTo (leastF n v) m x n (k + 1) = bestTo (leastF n v) m x n k by
          rw [HS1.out]
          unfold stepL
          rw [if_pos hb])
        clear HS1 hx1 hbit hw0 hw1
        generalize bestTo (leastF n v) m x n k = bc at *
        go_wp2_with (fail)
        go_roundw
        case rel => exact ⟨k + 1, by omega, by go_num, by rw [HS2.out], HKr⟩
        case measure => simp [intOf]; omega
    · obtain rfl : k = n := by omega
      obtain ⟨w6, hr6, hI6, hg6⟩ := HSt.out wr HKr.out
      have HI6 := Aside0.mk hI6
      have HG6 := Aside0.mk hg6
      have HZ2 := Aside0.mk HZ.out
      clear hI6 hg6
      generalize bestTo (leastF k v) m x k k = bc at *
      go_wp2_with (fail)
      go_region
      go_wp2_with (fail)
      go_ret
      exact ⟨by rw [HZ2.out]; rfl, HI6.out, HG6.out⟩

theorem left_calls (n v a M : Nat) (u : Value) (hn : n ≤ 4) (hv : v ≤ 4294967296) (haM : a ≠ M) : ∀ (d m x : Nat) (W : World), m < 2 ^ n → x < 2 ^ n → freeTo m n = d → AskInv n v a M u W →
    Calls Try.prog 11 #[.pointer (some ⟨a, 0, none⟩), knownV m x] W fun e w' => e = .returned (.int .i64 (leastF n v m x : Int)) ∧ AskInv n v a M u w' ∧ W.grownBy w' (some M) := by
  intro d
  induction d using Nat.strongRecOn with
  | _ d ihd =>
    intro m x W hm hx hd hI
    obtain ⟨c, b, hc, hl⟩ := (hI.below (below_alloc (Below.refl _ _) (.cells #[.int .i64 (m : Int), .int .i64 (x : Int)] 35))).look hn m x hm hx
    cases b
    · by_cases hq : cubeV v m x (2 ^ n) = 2
      · exact left_tree n v a M u hn hv haM m x hm hx W hI c hq (fun m' y W' hm' hy hf hI' => ihd (freeTo m' n) (by omega) m' y W' hm' hy rfl hI') hl
      · exact left_flat n v a M u hn hv haM m x hm hx W hI c hq hl
    · exact left_hit n v a M u m x W hI c (hc rfl) hl
end Go.Proofs.Ytekdidlaeljdjaa.P
