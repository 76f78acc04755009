/- ClassSize: the set of words that images leaves. No conditions but those that stand in the theorems. -/
import Derived.Test.YtijpcemcijaeeaaP0
import Derived.Test.YtijpcemcijaeeaaGca
import Derived.Maps.OwnSet
import Derived.Lib.Hide
import Derived.Test.YtijpcemcijaeeaaGca
import Derived.Test.YtijpcemcijaeeaaPy1
namespace Go.Proofs.Ytijpcemcijaeeaa.P
set_option linter.unusedVariables false
set_option linter.unusedSimpArgs false
open Go.RowKit Go.Maps Go.Proofs.Ytijpcemcijaeeaa.Bits Go.Proofs.Ytijpcemcijaeeaa.Tab Go.Proofs.YtijpcemcijaeeaaW.PrintWords Go.Proofs.YtijpcemcijaeeaaW.PrintLast Go.Proofs.YtijpcemcijaeeaaW.PrintMore
attribute [local go_sem] fld23_0 fld23_1

def litN (x : Nat) : Lit := .int .i64 (x : Int)
theorem same_lit (a b : Nat) : (litN a).sameKey (litN b) = decide (a = b) := by
  simp only [litN, Lit.sameKey, true_and]
  congr 1
  exact propext ⟨fun h => by omega, fun h => by omega⟩

theorem add_fold : ∀ (ws d0 : List Nat), d0.Nodup → ∃ d : List Nat, (ws.map litN).foldl addKey (d0.map litN) = d.map litN ∧ d.Nodup ∧ ∀ x, x ∈ d ↔ x ∈ d0 ∨ x ∈ ws
  | [], d0, h => ⟨d0, rfl, h, fun x => by simp⟩
  | w :: ws, d0, h => by
    have ha : (d0.map litN).any (fun y => y.sameKey (litN w)) = decide (w ∈ d0) := by
      rw [Bool.eq_iff_iff]
      simp only [List.any_map, List.any_eq_true, Function.comp_apply, same_lit, decide_eq_true_eq]
      exact ⟨fun ⟨x, h1, h2⟩ => h2 ▸ h1, fun h => ⟨w, h, rfl⟩⟩
    by_cases hw : w ∈ d0
    · obtain ⟨d, h1, h2, h3⟩ := add_fold ws d0 h
      refine ⟨d, ?_, h2, fun x => ?_⟩
      · rw [List.map_cons, List.foldl_cons]
        unfold addKey
        rw [ha, if_pos (decide_eq_true hw)]
        exact h1
      · rw [h3, List.mem_cons]
        constructor
        · rintro (q | q)
          · exact Or.inl q
          · exact Or.inr (Or.inr q)
        · rintro (q | rfl | q)
          · exact Or.inl q
          · exact Or.inl hw
          · exact Or.inr q
    · obtain ⟨d, h1, h2, h3⟩ := add_fold ws (d0 ++ [w]) (by
        rw [List.nodup_append]
        refine ⟨h, by simp, fun a hq b hb => ?_⟩
        rw [List.mem_singleton] at hb
        subst hb
        exact fun e => hw (e ▸ hq))
      refine ⟨d, ?_, h2, fun x => ?_⟩
      · rw [List.map_cons, List.foldl_cons]
        rw [show addKey (d0.map litN) (litN w) = (d0 ++ [w]).map litN by
          unfold addKey
          rw [ha, if_neg (by simp [hw])]
          simp]
        exact h1
      · rw [h3, List.mem_append, List.mem_singleton, List.mem_cons]
        constructor
        · rintro ((q | q) | q)
          · exact Or.inl q
          · exact Or.inr (Or.inl q)
          · exact Or.inr (Or.inr q)
        · rintro (q | q | q)
          · exact Or.inl (Or.inl q)
          · exact Or.inl (Or.inr q)
          · exact Or.inr q

/-- The set of the words seen, as the map that the program holds. -/
def seenD (ws : List Nat) : DataW Unit := setOf (.lit (.bool true)) (ws.map litN)
theorem seenD_snoc (ws : List Nat) (x : Nat) : seenD (ws ++ [x]) = (seenD ws).put (litN x) (.lit (.bool true)) := by
  unfold seenD
  rw [List.map_append, List.map_cons, List.map_nil, setOf_snoc]
theorem size_seen (ws : List Nat) : ∃ d : List Nat, Maps.size (seenD ws) = d.length ∧ d.Nodup ∧ ∀ x, x ∈ d ↔ x ∈ ws := by
  obtain ⟨d, h1, h2, h3⟩ := add_fold ws [] List.nodup_nil
  refine ⟨d, ?_, h2, fun x => by rw [h3]; simp⟩
  unfold seenD
  rw [size_setOf _ _ (by
    intro x hx
    obtain ⟨y, -, rfl⟩ := List.mem_map.1 hx
    exact trivial)]
  rw [List.map_nil] at h1
  rw [h1, List.length_map]

theorem key_int : Keyed Try.prog 3 := int_keyed Try.underlying3

set_option maxHeartbeats 4000000 in
set_option maxRecDepth 100000 in
theorem seen_closure (b M n x m : Nat) (hm : m ≤ 100000) (hx : x < 2 ^ 62) (D : DataW Unit) (W : World) (h : W.heap[b]? = some (.cells #[.map (some M)] 92 (0, 0))) (ho : W.ownsMap Try.prog 3 (plainElem Try.prog 4) M m D) :
    Calls Try.prog 117 #[.agg #[.int .i64 (n : Int), .int .i64 (x : Int)], .pointer (some ⟨b, 0, none⟩)] W fun e w' => e = .returned (.tuple #[]) ∧ w'.ownsMap Try.prog 3 (plainElem Try.prog 4) M (m + 1) (D.put (litN x) (.lit (.bool true))) ∧ (W.alloc (.cells #[.int .i64 (n : Int), .int .i64 (x : Int)] 23)).grownBy w' (some M) := by
  have h1 := blk_alloc h (.cells #[.int .i64 (n : Int), .int .i64 (x : Int)] 23)
  have c1 : (W.alloc (.cells #[.int .i64 (n : Int), .int .i64 (x : Int)] 23)).cell? ⟨b, 0, none⟩ = some (.map (some M)) := blk_cell h1 0
  have hkey : keyOf Try.prog 3 (.int .i64 (x : Int)) = some (litN x) := keyOf_int_mk Try.underlying3 (by
    have h1 : IntKind.i64.min = -9223372036854775808 := by decide
    have h2 : IntKind.i64.max = 9223372036854775807 := by decide
    simp only [Lit.wf, h1, h2, Bool.and_eq_true, decide_eq_true_eq]
    omega)
  have ho1 := Aside0.mk (ho.alloc (.cells #[.int .i64 (n : Int), .int .i64 (x : Int)] 23))
  have HK := Aside0.mk hkey
  clear h h1 ho hkey
  go_enter Try.func117, Try.ntmps117
  go_wp2_with (at_mapUpdate; refine wpList_mapUpdate_own _ rfl _ _ _ 92 rfl 3 4 key_int Try.underlying92 (plainElem (H := Unit) Try.prog 4) M m D rfl ho1.out (by unfold maxLen; omega) _ _ (litN x) rfl rfl HK.out (.lit (.bool true)) [] (plainElem_bool Try.underlying4 true) ?_; intro w1 hown1 hgrow1)
  exact bodyPost_end (v := .tuple #[]) (by simp [results, Try.results117, go_sem]) rfl ⟨rfl, hown1, hgrow1⟩

def impl_ClassSize.f (a0_0 : Int) (a0_1 : Int) : Option Int := if isT a0_0 a0_1 = true ∧ a0_0 ≤ 4 then some ((Maps.size (seenD (words a0_0.toNat a0_1.toNat)) : Nat) : Int) else some (-1)

theorem small_is2 (n w : Int) : impl_isSmall.f n w 4 = some (isT n w && decide (n ≤ 4)) := by
  unfold impl_isSmall.f
  rw [impl_IsTable_is]
  cases isT n w <;> rfl

/-- What the caller's variable holds while images runs. -/
def SeenInv (w : World) (b M : Nat) (ws : List Nat) (W : World) : Prop := W.heap[b]? = some (.cells #[.map (some M)] 92 (0, 0)) ∧ W.ownsMap Try.prog 3 (plainElem Try.prog 4) M ws.length (seenD ws) ∧ Below w.heap.size w W

theorem owns_below {W W' : World} {M m N : Nat} {D : DataW Unit} (h : W.ownsMap Try.prog 3 (plainElem Try.prog 4) M m D) (hB : Below N W W') (hM : M < N) : W'.ownsMap Try.prog 3 (plainElem Try.prog 4) M m D := by
  obtain ⟨es, clock, hb, h2⟩ := h
  exact ⟨es, clock, (hB.block M hM).trans hb, h2⟩

theorem owns_set {W : World} {M m b j : Nat} {D : DataW Unit} (h : W.ownsMap Try.prog 3 (plainElem Try.prog 4) M m D) (hb : b ≠ M) (u : Value) : (W.setCell ⟨b, j, none⟩ u).ownsMap Try.prog 3 (plainElem Try.prog 4) M m D := by
  obtain ⟨es, clock, hh, h2⟩ := h
  exact ⟨es, clock, (Below.heap_setCell W ⟨b, j, none⟩ u M (by show M ≠ b; omega)).trans hh, h2⟩

set_option maxHeartbeats 4000000 in
set_option maxRecDepth 100000 in
theorem class_nat (n v : Nat) (hn : n ≤ 4) (hv : v < 2 ^ 2 ^ n) (w : World) :
    Calls Try.prog 59 #[.agg #[.int .i64 (n : Int), .int .i64 (v : Int)]] w fun e w' => e = .returned (.int .i64 ((Maps.size (seenD (words n v)) : Nat) : Int)) ∧ Below w.heap.size w w' := by
  have hl := lim4 hn
  have hsm : impl_isSmall.f (n : Int) (v : Int) 4 = some true := by
    rw [small_is2, isT_of ⟨by omega, by omega, by omega, by rw [lim_nat hn]; omega⟩]
    simp
    omega
  have HSM := Aside0.mk hsm
  have hmm := @run_makeMap Try.prog
  have eg : ∀ args w, (callFunc 117 args).run Try.prog w = .ok (.enter 117 args) w := fun args w => enters_of Try.func117 (by kernel_rfl) rfl args w
  have HI := Aside0.mk (fun (W : World) (b M : Nat) (h0 : SeenInv w b M [] W) (hM : w.heap.size ≤ M) (hbW : b < W.heap.size) (hMW : M < W.heap.size) (hbM : b ≠ M) => images_calls 117 (.pointer (some ⟨b, 0, none⟩)) eg n v (2 ^ n) 400 hn (sz4 hn) (ext n n []) (by have := (ext_rows n hn).1; omega) (permF n v) (shF n) (ntF n) (2 ^ 32) (perms_is hn) (size_nat hn v)
    (fun x hx => ⟨(perm_both n v hn (by omega) x hx 400 (by omega)).2.2, (perm_both n v hn (by omega) x hx 400 (by omega)).1⟩) (fun a x ha hx => shift_fact n a x hn ha hx) (fun a x _ _ => not_fact n _ hn (shF_lt n a x)) (2 ^ 2 ^ n) (fun a x => ⟨shF_lt n a x, ntF_lt n _⟩) W (SeenInv w b M)
    (fun ws W1 W2 h hB => ⟨(hB.block b hbW).trans h.1, owns_below h.2.1 hB hMW, h.2.2.trans (hB.mono (by omega))⟩)
    (fun ws x W1 h hs hlen hxT => (seen_closure b M n x ws.length hlen (by omega) (seenD ws) W1 h.1 h.2.1).mono (by
      rintro e w' ⟨rfl, ho, hg⟩
      have hw := h.2.2.size
      have hbl : b < (W1.alloc (.cells #[.int .i64 (n : Int), .int .i64 (x : Int)] 23)).heap.size := by simp; omega
      refine ⟨rfl, ⟨(hg.block b hbl (by simp [hbM])).trans (blk_alloc h.1 _), ?_, (below_alloc h.2.2 _).grown hg (by simp; omega) (fun k hk => by cases hk; exact hM)⟩, ?_⟩
      · rw [seenD_snoc, List.length_append]
        exact ho
      · exact (kept_alloc _ _).of_grown hg (fun k hk => by cases hk; exact Or.inl hMW))) h0)
  clear hsm eg hl
  go_enter Try.func59, Try.ntmps59
  go_wp2_with (fail)
  refine (impl_isSmall.calls (n : Int) (v : Int) 4 true _ HSM.out).mono ?_
  rintro e w1 ⟨rfl, hB⟩
  have HF1 := Aside0.mk (blk_below (blk_new w (.cells #[.int .i64 (n : Int), .int .i64 (v : Int)] 23)) hB)
  have HB1 := Aside0.mk (below_step (below_alloc (Below.refl w.heap.size w) (.cells #[.int .i64 (n : Int), .int .i64 (v : Int)] 23)) hB)
  have hz : w.heap.size + 1 ≤ w1.heap.size := by have := hB.size; simpa using this
  have HF4 := Aside0.mk (show ((w1.alloc (.map #[] 0)).alloc (.cells #[.map (some w1.heap.size)] 92)).heap[w.heap.size]? = some (.cells #[.int .i64 (n : Int), .int .i64 (v : Int)] 23 (0, 0)) from blk_alloc (blk_alloc HF1.out (.map #[] 0)) _)
  have HM4 := Aside0.mk (show ((w1.alloc (.map #[] 0)).alloc (.cells #[.map (some w1.heap.size)] 92)).heap[w1.heap.size + 1]? = some (.cells #[.map (some w1.heap.size)] 92 (0, 0)) from by
    have := blk_new (w1.alloc (.map #[] 0)) (.cells #[.map (some w1.heap.size)] 92)
    simpa using this)
  have HO4 := Aside0.mk (show ((w1.alloc (.map #[] 0)).alloc (.cells #[.map (some w1.heap.size)] 92)).ownsMap Try.prog 3 (plainElem Try.prog 4) w1.heap.size 0 (.map [] : DataW Unit) from (World.ownsMap_made w1 _ _ _).alloc _)
  have HB4 := Aside0.mk (show Below w.heap.size w ((w1.alloc (.map #[] 0)).alloc (.cells #[.map (some w1.heap.size)] 92)) from below_alloc (below_alloc HB1.out _) _)
  have HS4 := Aside0.mk (show ((w1.alloc (.map #[] 0)).alloc (.cells #[.map (some w1.heap.size)] 92)).heap.size = w1.heap.size + 2 by simp)
  have c0 : ((w1.alloc (.map #[] 0)).alloc (.cells #[.map (some w1.heap.size)] 92)).cell? ⟨w.heap.size, 0, none⟩ = some (.int .i64 (n : Int)) := blk_cell HF4.out 0
  have c1 : ((w1.alloc (.map #[] 0)).alloc (.cells #[.map (some w1.heap.size)] 92)).cell? ⟨w.heap.size, 1, none⟩ = some (.int .i64 (v : Int)) := blk_cell HF4.out 1
  clear hB
  go_wp2_with (fail)
  refine (HI.out _ (w1.heap.size + 1) w1.heap.size ⟨HM4.out, HO4.out, HB4.out⟩ (by omega) (by rw [HS4.out]; omega) (by rw [HS4.out]; omega) (by omega)).mono ?_
  rintro e w2 ⟨rfl, h1, h2, h3⟩
  have d0 : w2.cell? ⟨w1.heap.size + 1, 0, none⟩ = some (.map (some w1.heap.size)) := blk_cell h1 0
  have HO2 := Aside0.mk h2
  have HB2 := Aside0.mk h3
  clear h1 h2 h3 HI c0 c1
  go_wp2_with (at_len; refine wpList_len_own _ rfl _ 92 rfl 3 4 Try.underlying92 (plainElem (H := Unit) Try.prog 4) w1.heap.size _ _ rfl HO2.out ?_)
  go_ret
  exact ⟨rfl, HB2.out⟩

set_option maxHeartbeats 4000000 in
set_option maxRecDepth 100000 in
theorem class_not (a b : Int) (hno : ¬ (isT a b = true ∧ a ≤ 4)) (w : World) :
    Calls Try.prog 59 #[.agg #[.int .i64 a, .int .i64 b]] w fun e w' => e = .returned (.int .i64 (-1)) ∧ Below w.heap.size w w' := by
  have hsm : impl_isSmall.f a b 4 = some false := by
    rw [small_is2]
    congr 1
    rw [Bool.eq_false_iff]
    intro h
    exact hno (by simpa using h)
  have HSM := Aside0.mk hsm
  clear hsm hno
  go_enter Try.func59, Try.ntmps59
  go_wp2_with (fail)
  refine (impl_isSmall.calls a b 4 false _ HSM.out).mono ?_
  rintro e w1 ⟨rfl, hB⟩
  have HB1 := Aside0.mk (below_step (below_alloc (Below.refl w.heap.size w) (.cells #[.int .i64 a, .int .i64 b] 23)) hB)
  clear hB
  go_wp2_with (fail)
  go_ret
  exact ⟨rfl, HB1.out⟩

theorem impl_ClassSize.calls (a0_0 a0_1 r : Int) (w : World) (h : impl_ClassSize.f a0_0 a0_1 = some r) :
    Calls Try.prog 59 #[.agg #[.int .i64 a0_0, .int .i64 a0_1]] w fun e w' => e = .returned (.int .i64 r) ∧ Below w.heap.size w w' := by
  unfold impl_ClassSize.f at h
  by_cases c : isT a0_0 a0_1 = true ∧ a0_0 ≤ 4
  · rw [if_pos c] at h
    obtain rfl := Option.some.inj h
    obtain ⟨h0, h5, hw, hl⟩ := isT_yes c.1
    obtain ⟨n, rfl⟩ := Int.eq_ofNat_of_zero_le h0
    obtain ⟨v, rfl⟩ := Int.eq_ofNat_of_zero_le hw
    rw [lim_nat (by omega)] at hl
    simp only [Int.toNat_natCast]
    exact class_nat n v (by omega) (by omega) w
  · rw [if_neg c] at h
    obtain rfl := Option.some.inj h
    exact class_not a0_0 a0_1 c w
end Go.Proofs.Ytijpcemcijaeeaa.P
