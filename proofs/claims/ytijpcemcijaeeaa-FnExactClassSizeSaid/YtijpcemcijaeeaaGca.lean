/- The canonical table, and the count of symmetries: the closures that images calls, and what is left when it ends. No conditions but those that stand in the theorems. -/
import Derived.Test.YtijpcemcijaeeaaP0
import Derived.Test.YtijpcemcijaeeaaGim
import Derived.Test.YtijpcemcijaeeaaTab
import Derived.Test.YtijpcemcijaeeaaImg
import Derived.Lib.Hide
import Derived.Test.YtijpcemcijaeeaaGpe
import Derived.Test.YtijpcemcijaeeaaPm0
namespace Go.Proofs.Ytijpcemcijaeeaa.P
set_option linter.unusedVariables false
set_option linter.unusedSimpArgs false
open Go.RowKit Go.Proofs.Ytijpcemcijaeeaa.Bits Go.Proofs.Ytijpcemcijaeeaa.Tab Go.Proofs.YtijpcemcijaeeaaW.PrintWords Go.Proofs.YtijpcemcijaeeaaW.PrintLast Go.Proofs.YtijpcemcijaeeaaW.PrintMore
attribute [local go_sem] max2_int min2_int max_two min_two max_three min_three max_four min_four
attribute [local go_sem] fld23_0 fld23_1

set_option maxHeartbeats 4000000 in
set_option maxRecDepth 100000 in
theorem least_closure (b n y x : Nat) (W : World) (h : W.heap[b]? = some (.cells #[.int .i64 (n : Int), .int .i64 (y : Int)] 23 (0, 0))) :
    Calls Try.prog 137 #[.agg #[.int .i64 (n : Int), .int .i64 (x : Int)], .pointer (some ⟨b, 0, none⟩)] W fun e w' => e = .returned (.tuple #[]) ∧ w' = (W.alloc (.cells #[.int .i64 (n : Int), .int .i64 (x : Int)] 23)).setCell ⟨b, 1, none⟩ (.int .i64 ((min y x : Nat) : Int)) := by
  have h1 := blk_alloc h (.cells #[.int .i64 (n : Int), .int .i64 (x : Int)] 23)
  have c1 : (W.alloc (.cells #[.int .i64 (n : Int), .int .i64 (x : Int)] 23)).cell? ⟨b, 1, none⟩ = some (.int .i64 (y : Int)) := blk_cell h1 1
  have f1 : (W.alloc (.cells #[.int .i64 (n : Int), .int .i64 (x : Int)] 23)).frozen? ⟨b, 1, none⟩ = false := blk_frozen h1 1
  have hm : min (y : Int) (x : Int) = ((min y x : Nat) : Int) := by omega
  clear h h1
  go_enter Try.func137, Try.ntmps137
  go_wp2_with (fail)
  all_goals exact bodyPost_end (v := .tuple #[]) (by simp [results, Try.results137, go_sem]) rfl ⟨rfl, by congr 2; omega⟩

set_option maxHeartbeats 4000000 in
set_option maxRecDepth 100000 in
theorem count_closure (b bc n v c x : Nat) (hc : c ≤ 100000) (W : World) (h : W.heap[b]? = some (.cells #[.int .i64 (n : Int), .int .i64 (v : Int)] 23 (0, 0))) (h2 : W.heap[bc]? = some (.cells #[.int .i64 (c : Int)] 3 (0, 0))) :
    Calls Try.prog 112 #[.agg #[.int .i64 (n : Int), .int .i64 (x : Int)], .pointer (some ⟨b, 0, none⟩), .pointer (some ⟨bc, 0, none⟩)] W fun e w' => e = .returned (.tuple #[]) ∧ w' = if x = v then (W.alloc (.cells #[.int .i64 (n : Int), .int .i64 (x : Int)] 23)).setCell ⟨bc, 0, none⟩ (.int .i64 ((c + 1 : Nat) : Int)) else W.alloc (.cells #[.int .i64 (n : Int), .int .i64 (x : Int)] 23) := by
  by_cases hx : x = v
  · subst hx
    rw [if_pos rfl]
    have h1 := blk_alloc h (.cells #[.int .i64 (n : Int), .int .i64 (x : Int)] 23)
    have h3 := blk_alloc h2 (.cells #[.int .i64 (n : Int), .int .i64 (x : Int)] 23)
    have c0 : (W.alloc (.cells #[.int .i64 (n : Int), .int .i64 (x : Int)] 23)).cell? ⟨b, 0, none⟩ = some (.int .i64 (n : Int)) := blk_cell h1 0
    have c1 : (W.alloc (.cells #[.int .i64 (n : Int), .int .i64 (x : Int)] 23)).cell? ⟨b, 1, none⟩ = some (.int .i64 (x : Int)) := blk_cell h1 1
    have c2 : (W.alloc (.cells #[.int .i64 (n : Int), .int .i64 (x : Int)] 23)).cell? ⟨bc, 0, none⟩ = some (.int .i64 (c : Int)) := blk_cell h3 0
    have f2 : (W.alloc (.cells #[.int .i64 (n : Int), .int .i64 (x : Int)] 23)).frozen? ⟨bc, 0, none⟩ = false := blk_frozen h3 0
    clear h h1 h2 h3
    go_enter Try.func112, Try.ntmps112
    go_wp2_with (fail)
    all_goals exact bodyPost_end (v := .tuple #[]) (by simp [results, Try.results112, go_sem]) rfl ⟨rfl, by congr 2⟩
  · rw [if_neg hx]
    have h1 := blk_alloc h (.cells #[.int .i64 (n : Int), .int .i64 (x : Int)] 23)
    have c0 : (W.alloc (.cells #[.int .i64 (n : Int), .int .i64 (x : Int)] 23)).cell? ⟨b, 0, none⟩ = some (.int .i64 (n : Int)) := blk_cell h1 0
    have c1 : (W.alloc (.cells #[.int .i64 (n : Int), .int .i64 (x : Int)] 23)).cell? ⟨b, 1, none⟩ = some (.int .i64 (v : Int)) := blk_cell h1 1
    clear h h1 h2
    go_enter Try.func112, Try.ntmps112
    go_wp2_with (fail)
    all_goals first | omega | exact bodyPost_end (v := .tuple #[]) (by simp [results, Try.results112, go_sem]) rfl ⟨rfl, rfl⟩

theorem kept_alloc {W : World} (S : Nat → Prop) (o : Obj) : Kept W (W.alloc o) S := Kept.of_below (below_alloc (Below.refl _ _) o) S
theorem kept_set {W w : World} {N b : Nat} (h : Kept W w (fun k => k < N)) (hb : b < N) (j : Nat) (u : Value) : Kept W (w.setCell ⟨b, j, none⟩ u) (fun k => k < N) :=
  ⟨by simpa [World.setCell] using h.1, fun i hi hn => by rw [Below.heap_setCell w ⟨b, j, none⟩ u i (by show i ≠ b; omega)]; exact h.2 i hi hn⟩

def impl_Table_canonical.f (a0_0 : Int) (a0_1 : Int) : Option (Int × Int) := if 0 ≤ a0_0 ∧ a0_0 ≤ 4 ∧ 0 ≤ a0_1 ∧ a0_1 < ((2 ^ 2 ^ a0_0.toNat : Nat) : Int) then some (a0_0, ((words a0_0.toNat a0_1.toNat).foldl min a0_1.toNat : Nat)) else none

theorem lim4 {n : Nat} (hn : n ≤ 4) : 2 ^ 2 ^ n ≤ 65536 := by
  have : n = 0 ∨ n = 1 ∨ n = 2 ∨ n = 3 ∨ n = 4 := by omega
  rcases this with rfl | rfl | rfl | rfl | rfl <;> decide
theorem sz4 {n : Nat} (hn : n ≤ 4) : 2 ^ n ≤ 16 := by
  have : n = 0 ∨ n = 1 ∨ n = 2 ∨ n = 3 ∨ n = 4 := by omega
  rcases this with rfl | rfl | rfl | rfl | rfl <;> decide

theorem perms_is {n : Nat} (hn : n ≤ 4) : impl_permutations.f (n : Int) = some (ext n n []) := by
  unfold impl_permutations.f
  rw [if_pos (by omega), Int.toNat_natCast]
theorem size_nat {n : Nat} (hn : n ≤ 4) (v : Nat) : impl_Table_size.f (n : Int) (v : Int) = some ((2 ^ n : Nat) : Int) := by
  rw [size_is (by omega) (by omega), two_at_nat hn]

/-- What the caller's variable holds while images runs. -/
def LeastInv (w : World) (b b2 n v : Nat) (ws : List Nat) (W : World) : Prop := W.heap[b2]? = some (.cells #[.int .i64 0, .int .i64 0] 23 (0, 0)) ∧ W.heap[b]? = some (.cells #[.int .i64 (n : Int), .int .i64 ((ws.foldl min v : Nat) : Int)] 23 (0, 0)) ∧ Below w.heap.size w W

set_option maxHeartbeats 4000000 in
set_option maxRecDepth 100000 in
theorem canonical_nat (n v : Nat) (hn : n ≤ 4) (hv : v < 2 ^ 2 ^ n) (w : World) :
    Calls Try.prog 116 #[.agg #[.int .i64 (n : Int), .int .i64 (v : Int)]] w fun e w' => e = .returned (.agg #[.int .i64 (n : Int), .int .i64 (((words n v).foldl min v : Nat) : Int)]) ∧ Below w.heap.size w w' := by
  have hl := lim4 hn
  have eg : ∀ args w, (callFunc 137 args).run Try.prog w = .ok (.enter 137 args) w := fun args w => enters_of Try.func137 (by kernel_rfl) rfl args w
  have HI := Aside0.mk (fun (W : World) (b b2 : Nat) (h0 : LeastInv w b b2 n v [] W) (hb : w.heap.size ≤ b) (hbW : b < W.heap.size) (hb2W : b2 < W.heap.size) (hbb : b2 ≠ b) => images_calls 137 (.pointer (some ⟨b, 0, none⟩)) eg n v (2 ^ n) 400 hn (sz4 hn) (ext n n []) (by have := (ext_rows n hn).1; omega) (permF n v) (shF n) (ntF n) (2 ^ 32) (perms_is hn) (size_nat hn v)
    (fun x hx => ⟨(perm_both n v hn (by omega) x hx 400 (by omega)).2.2, (perm_both n v hn (by omega) x hx 400 (by omega)).1⟩) (fun a x ha hx => shift_fact n a x hn ha hx) (fun a x _ _ => not_fact n _ hn (shF_lt n a x)) (2 ^ 2 ^ n) (fun a x => ⟨shF_lt n a x, ntF_lt n _⟩) W (LeastInv w b b2 n v)
    (fun ws W1 W2 h hB => ⟨(hB.block b2 hb2W).trans h.1, (hB.block b hbW).trans h.2.1, h.2.2.trans (hB.mono (by omega))⟩)
    (fun ws x W1 h hs _ _ => (least_closure b n _ x W1 h.2.1).mono (by
      rintro e w' ⟨rfl, rfl⟩
      refine ⟨rfl, ⟨blk_far (blk_alloc h.1 _) hbb _, ?_, below_set (below_alloc h.2.2 _) hb⟩, kept_set (kept_alloc _ _) hbW 1 _⟩
      have := blk_put (blk_alloc h.2.1 (.cells #[.int .i64 (n : Int), .int .i64 (x : Int)] 23)) 1 (.int .i64 ((min (ws.foldl min v) x : Nat) : Int)) rfl
      rw [this]
      simp [List.foldl_append])) h0)
  clear eg
  go_enter Try.func116, Try.ntmps116
  go_wp2_with (fail)
  refine (HI.out _ (w.heap.size + 1 + 1) (w.heap.size + 1) ⟨blk_alloc (by simpa using blk_new (w.alloc (.cells #[.int .i64 (n : Int), .int .i64 (v : Int)] 23)) (.cells #[.int .i64 0, .int .i64 0] 23)) _, by simpa using blk_new ((w.alloc (.cells #[.int .i64 (n : Int), .int .i64 (v : Int)] 23)).alloc (.cells #[.int .i64 0, .int .i64 0] 23)) (.cells #[.int .i64 (n : Int), .int .i64 (v : Int)] 23), below_alloc (below_alloc (below_alloc (Below.refl _ _) _) _) _⟩ (by omega) (by simp) (by simp) (by omega)).mono ?_
  rintro e w1 ⟨rfl, h2, h1, hB⟩
  have c0 : w1.cell? ⟨w.heap.size + 1 + 1, 0, none⟩ = some (.int .i64 (n : Int)) := blk_cell h1 0
  have c1 : w1.cell? ⟨w.heap.size + 1 + 1, 1, none⟩ = some (.int .i64 (((words n v).foldl min v : Nat) : Int)) := blk_cell h1 1
  have d0 : w1.cell? ⟨w.heap.size + 1, 0, none⟩ = some (.int .i64 0) := blk_cell h2 0
  have d1 : w1.cell? ⟨w.heap.size + 1, 1, none⟩ = some (.int .i64 0) := blk_cell h2 1
  have f0 : w1.frozen? ⟨w.heap.size + 1, 0, none⟩ = false := blk_frozen h2 0
  have f1 : w1.frozen? ⟨w.heap.size + 1, 1, none⟩ = false := blk_frozen h2 1
  have HB := Aside0.mk hB
  have H2 := Aside0.mk h2
  obtain ⟨r, hr⟩ : ∃ r, (words n v).foldl min v = r := ⟨_, rfl⟩
  rw [hr] at c1
  have HRr := Aside0.mk hr
  have hq : ((w1.setCell ⟨w.heap.size + 1, 0, none⟩ (.int .i64 (n : Int))).setCell ⟨w.heap.size + 1, 1, none⟩ (.int .i64 (r : Int))).heap[w.heap.size + 1]? = some (.cells #[.int .i64 (n : Int), .int .i64 (r : Int)] 23 (0, 0)) := blk_put (blk_put h2 0 (.int .i64 (n : Int)) rfl) 1 (.int .i64 (r : Int)) rfl
  have e0 := blk_cell hq 0
  have e1 := blk_cell hq 1
  clear hr hq
  clear HI h1 h2 hB hv hl hn
  go_wp2_with (fail)
  refine bodyPost_ret (v := .agg #[.int .i64 (n : Int), .int .i64 (r : Int)]) ?_ rfl ⟨by rw [HRr.out], below_set (below_set HB.out (by simp)) (by simp)⟩
  simp at e0 e1
  simp [results, Try.results116, go_sem, e0, e1]

theorem impl_Table_canonical.calls (a0_0 a0_1 r1 r2 : Int) (w : World) (h : impl_Table_canonical.f a0_0 a0_1 = some (r1, r2)) :
    Calls Try.prog 116 #[.agg #[.int .i64 a0_0, .int .i64 a0_1]] w fun e w' => e = .returned (.agg #[.int .i64 r1, .int .i64 r2]) ∧ Below w.heap.size w w' := by
  unfold impl_Table_canonical.f at h
  split at h
  · rename_i c
    obtain ⟨n, rfl⟩ := Int.eq_ofNat_of_zero_le c.1
    obtain ⟨v, rfl⟩ := Int.eq_ofNat_of_zero_le c.2.2.1
    obtain ⟨rfl, rfl⟩ := Prod.mk.inj (Option.some.inj h)
    simp only [Int.toNat_natCast] at c ⊢
    exact canonical_nat n v (by omega) (by omega) w
  · cases h
end Go.Proofs.Ytijpcemcijaeeaa.P
