/- images: it calls what it is given for each table that comes from one; said of whatever closure of one or two captured variables. No conditions but those that stand in the theorems. -/
import Derived.Test.YtijpcemcijaeeaaP0
import Derived.Test.YtijpcemcijaeeaaBits
import Derived.Test.YtijpcemcijaeeaaGmb
import Derived.Test.YtijpcemcijaeeaaGpe
import Derived.Test.YtijpcemcijaeeaaGms
import Derived.Lib.Hide
import Derived.Test.YtijpcemcijaeeaaGms
import Derived.Test.YtijpcemcijaeeaaGpe
import Derived.Test.YtijpcemcijaeeaaPm0
import Derived.Test.YtijpcemcijaeeaaPy1
namespace Go.Proofs.Ytijpcemcijaeeaa.P
set_option linter.unusedVariables false
set_option linter.unusedSimpArgs false
open Go.RowKit Go.Proofs.Ytijpcemcijaeeaa.Bits Go.Proofs.YtijpcemcijaeeaaW.PrintWords Go.Proofs.YtijpcemcijaeeaaW.PrintLast Go.Proofs.YtijpcemcijaeeaaW.PrintMore

/-- The words that come from one order's word, and from all orders. -/
def vis (shF : Nat → Nat → Nat) (nt : Nat → Nat) (g m : Nat) : List Nat := (List.range m).flatMap fun x => [shF g x, nt (shF g x)]
def imgs (permF : List Int → Nat) (shF : Nat → Nat → Nat) (nt : Nat → Nat) (Z : Nat) (ps : List (List Int)) : List Nat := ps.flatMap fun p => vis shF nt (permF p) Z
theorem vis_succ (shF : Nat → Nat → Nat) (nt : Nat → Nat) (g m : Nat) : vis shF nt g (m + 1) = vis shF nt g m ++ [shF g m] ++ [nt (shF g m)] := by
  unfold vis
  rw [List.range_succ, List.flatMap_append]
  simp
theorem imgs_take (permF : List Int → Nat) (shF : Nat → Nat → Nat) (nt : Nat → Nat) (Z : Nat) (ps : List (List Int)) (k : Nat) (h : k < ps.length) : imgs permF shF nt Z (ps.take (k + 1)) = imgs permF shF nt Z (ps.take k) ++ vis shF nt (permF (ps.getD k [])) Z := by
  unfold imgs
  rw [List.take_add_one, List.flatMap_append, List.getD_eq_getElem?_getD, List.getElem?_eq_getElem h]
  simp

theorem vis_len (s : Nat → Nat → Nat) (t : Nat → Nat) (g m : Nat) : (vis s t g m).length = 2 * m := by
  induction m with
  | zero => rfl
  | succ m ih => rw [vis_succ, List.length_append, List.length_append, ih]; simp; omega
theorem imgs_len (p : List Int → Nat) (s : Nat → Nat → Nat) (t : Nat → Nat) (Z : Nat) (ps : List (List Int)) : (imgs p s t Z ps).length = ps.length * (2 * Z) := by
  unfold imgs
  induction ps with
  | nil => simp
  | cons x xs ih => rw [List.flatMap_cons, List.length_append, ih, vis_len, List.length_cons, Nat.add_mul, Nat.one_mul, Nat.add_comm]
theorem both_len (p : List Int → Nat) (s : Nat → Nat → Nat) (t : Nat → Nat) (Z : Nat) (hZ : Z ≤ 16) (ps : List (List Int)) (k a j : Nat) (hk : k ≤ 1000) (hj : j ≤ Z) : (imgs p s t Z (ps.take k) ++ vis s t a j).length ≤ 50000 := by
  rw [List.length_append, imgs_len, vis_len, List.length_take]
  have : min k ps.length * (2 * Z) ≤ 1000 * (2 * 16) := Nat.mul_le_mul (by omega) (by omega)
  omega

theorem below_a {N : Nat} {W : World} (h : N ≤ W.heap.size) (o : Obj) : Below N W (W.alloc o) := (below_alloc (Below.refl W.heap.size W) o).mono h
theorem kept_block {w w' : World} {S : Nat → Prop} (h : Kept w w' S) {g : Nat} {o : Obj} (hg : w.heap[g]? = some o) (hs : ¬ S g) : w'.heap[g]? = some o := by
  rw [h.2 g (by
    rcases Nat.lt_or_ge g w.heap.size with q | q
    · exact q
    · rw [Array.getElem?_eq_none q] at hg; cases hg) hs]
  exact hg

set_option maxHeartbeats 4000000 in
set_option maxRecDepth 100000 in
theorem images_calls (g : Nat) (c0 : Value) (eg : ∀ args w, (callFunc g args).run Try.prog w = .ok (.enter g args) w) (n v Z K : Nat) (hn : n ≤ 4) (hZ : Z ≤ 16) (ps : List (List Int)) (hL : ps.length ≤ 1000) (permF : List Int → Nat) (shF : Nat → Nat → Nat) (nt : Nat → Nat) (M : Nat)
    (hps : impl_permutations.f (n : Int) = some ps) (hsz : impl_Table_size.f (n : Int) (v : Int) = some (Z : Int)) (hpm : ∀ x ∈ ps, impl_Table_permute.f K (n : Int) (v : Int) x = some ((n : Int), (permF x : Int)) ∧ permF x < M) (hsh : ∀ a x, a < M → x < Z → impl_Table_shift.f (n : Int) (a : Int) (x : Int) = some ((n : Int), (shF a x : Int))) (hnt : ∀ a x, a < M → x < Z → impl_Table_not.f (n : Int) (shF a x : Int) = some ((n : Int), (nt (shF a x) : Int))) (T : Nat) (hT : ∀ a x, shF a x < T ∧ nt (shF a x) < T)
    (w : World) (Inv : List Nat → World → Prop) (hst : ∀ ws W W', Inv ws W → Below w.heap.size W W' → Inv ws W')
    (hf : ∀ ws (x : Nat) W, Inv ws W → w.heap.size ≤ W.heap.size → ws.length ≤ 100000 → x < T → Calls Try.prog g #[.agg #[.int .i64 (n : Int), .int .i64 (x : Int)], c0] W fun e w' => e = .returned (.tuple #[]) ∧ Inv (ws ++ [x]) w' ∧ Kept W w' (fun k => k < w.heap.size))
    (h0 : Inv [] w) :
    Calls Try.prog 111 #[.agg #[.int .i64 (n : Int), .int .i64 (v : Int)], .func (.func g) #[] #[c0]] w fun e w' => e = .returned (.tuple #[]) ∧ Inv (imgs permF shF nt Z ps) w' := by
  have HPS := Aside0.mk hps
  have HSZ := Aside0.mk hsz
  have HPM := Aside0.mk hpm
  have HSH := Aside0.mk hsh
  have HNT := Aside0.mk hnt
  have HTT := Aside0.mk hT
  have HST := Aside0.mk hst
  have HF := Aside0.mk hf
  have H0 := Aside0.mk h0
  obtain ⟨N, hN⟩ : ∃ N, w.heap.size = N := ⟨_, rfl⟩
  have HN := Aside0.mk hN
  rw [hN] at HST HF
  clear hps hsz hpm hsh hnt hst hf h0 hN hT
  go_enter Try.func111, Try.ntmps111
  go_wp2_with (fail)
  refine (impl_permutations.calls (n : Int) ps _ HPS.out).mono ?_
  rintro e w1 ⟨vp, rfl, hS, hB⟩
  obtain ⟨A, c, rfl⟩ := Kd.S_slice hS
  have HI1 := Aside0.mk (HST.out _ _ _ (HST.out _ w _ H0.out (by rw [← HN.out]; exact below_alloc (Below.refl _ _) (.cells #[.int .i64 (n : Int), .int .i64 (v : Int)] 23)))  (hB.mono (by rw [← HN.out]; simp)))
  have HS1 := Aside0.mk (Kd.S_lower (base' := N) (Kd.S_mono (ok' := fun k => N ≤ k) (Kd.S_bound hS) (fun k hk => by have := hk.2.1; rw [← HN.out]; simp at this; omega)) (by rw [← HN.out]; simp))
  have HF1 := Aside0.mk (show w1.heap[N]? = some (.cells #[.int .i64 (n : Int), .int .i64 (v : Int)] 23 (0, 0)) by
    rw [← HN.out]
    exact blk_below (blk_new w _) hB)
  have HZ1 := Aside0.mk (show N ≤ w1.heap.size by have := hB.size; rw [← HN.out]; simp at this; omega)
  rw [HN.out]
  clear hS hB H0
  obtain ⟨L, hLe⟩ : ∃ L, ps.length = L := ⟨_, rfl⟩
  rw [hLe] at hL HS1
  rw [hLe]
  have HLe := Aside0.mk hLe
  clear hLe
  go_wp2_with (fail)
  go_loopw [13] (fun i wr => ∃ k : Nat, k ≤ L ∧ i = .int .i64 (k : Int) ∧ Aside0 (Inv (imgs permF shF nt Z (ps.take k)) wr) ∧ Aside0 (Kd.S (Kd.slice 3 (Kd.int .i64)) 43 wr N (fun k => N ≤ k) (.slice A L c) ps) ∧ Aside0 (wr.heap[N]? = some (.cells #[.int .i64 (n : Int), .int .i64 (v : Int)] 23 (0, 0))) ∧ Aside0 (N ≤ wr.heap.size)) (fun i _ => L - (intOf i).toNat)
  case atStart => exact ⟨0, by omega, rfl, ⟨HI1.out⟩, HS1, HF1, HZ1⟩
  case round =>
    obtain ⟨k, hk, rfl, HI, HS, HF0, HZ⟩ := hrel
    clear HI1 HS1 HF1 HZ1
    by_cases hlt : k < L
    · obtain ⟨gp, cap, hv, -, -, -⟩ := Kd.S_form HS.out (by rw [HLe.out]; omega)
      injection hv with e1 e2 e3
      subst e1
      clear e2 e3
      obtain ⟨oki, cv, hcl, ⟨v1, rfl, hR⟩, hcc, hoki, hH⟩ := Kd.S_lend HS.out [] (k : Int) (by omega) (by omega)
      have hc : wr.cell? ⟨gp, k, none⟩ = some v1 := by
        have := hcc 0 v1 rfl
        simpa [Kd.slice] using this
      simp only [Int.toNat_natCast] at hR
      have hx : ps.getD k [] ∈ ps := by
        rw [List.getD_eq_getElem?_getD, List.getElem?_eq_getElem (by rw [HLe.out]; omega)]
        exact List.getElem_mem _
      have HTK := Aside0.mk (imgs_take permF shF nt Z ps k (by rw [HLe.out]; omega))
      obtain ⟨hp1, hp2⟩ := HPM.out _ hx
      generalize ps.getD k [] = x at hR hx hp1 hp2 HTK
      obtain ⟨A1, c1, rfl⟩ := Kd.R_slice hR
      have hrd := Kd.R_reads' hR
      have HC := Aside0.mk (impl_Table_permute.calls K (n : Int) (v : Int) A1 c1 x _ _ wr hrd.2.2 hrd.2.1 hp1)
      have hcf : wr.cell? ⟨N, 0, none⟩ = some (.int .i64 (n : Int)) := blk_cell HF0.out 0
      have hcf1 : wr.cell? ⟨N, 1, none⟩ = some (.int .i64 (v : Int)) := blk_cell HF0.out 1
      have HP2 := Aside0.mk hp2
      clear hR hrd hcc hoki hH hcl hx hp1 hp2
      generalize permF x = a at HC HP2 HTK
      go_wp2_with (fail)
      refine HC.out.mono ?_
      rintro e w2 ⟨rfl, hB2⟩
      have HF2 := Aside0.mk (blk_below HF0.out hB2)
      have HI2 := Aside0.mk (HST.out _ _ _ (HST.out _ _ _ HI.out (hB2.mono HZ.out)) (below_a (Nat.le_trans HZ.out hB2.size) (.cells #[.int .i64 (n : Int), .int .i64 (a : Int)] 23)))
      have HS2 := Aside0.mk (Kd.S_alloc (Kd.S_below HS.out hB2) (.cells #[.int .i64 (n : Int), .int .i64 (a : Int)] 23))
      have HZ2 := Aside0.mk (Nat.le_trans HZ.out hB2.size)
      have HFa := Aside0.mk (blk_alloc HF2.out (.cells #[.int .i64 (n : Int), .int .i64 (a : Int)] 23))
      have hca : (w2.alloc (.cells #[.int .i64 (n : Int), .int .i64 (a : Int)] 23)).cell? ⟨N, 0, none⟩ = some (.int .i64 (n : Int)) := blk_cell HFa.out 0
      have hcb : (w2.alloc (.cells #[.int .i64 (n : Int), .int .i64 (a : Int)] 23)).cell? ⟨N, 1, none⟩ = some (.int .i64 (v : Int)) := blk_cell HFa.out 1
      have HG2 := Aside0.mk (blk_new w2 (.cells #[.int .i64 (n : Int), .int .i64 (a : Int)] 23))
      obtain ⟨b6, hb6⟩ : ∃ b6, w2.heap.size = b6 := ⟨_, rfl⟩
      rw [hb6] at HZ2 HG2
      have HB6 := Aside0.mk hb6
      clear hB2 hcf hcf1 hc HC HI HS HF0 HZ HF2 hb6
      go_wp2_with (fail)
      refine (impl_Table_size.calls (n : Int) (v : Int) (Z : Int) _ HSZ.out).mono ?_
      rintro e w3 ⟨rfl, hB3⟩
      have HI3 := Aside0.mk (HST.out _ _ _ HI2.out (hB3.mono (by simp; rw [HB6.out]; have := HZ2.out; omega)))
      have HS3 := Aside0.mk (Kd.S_below HS2.out hB3)
      have HF3 := Aside0.mk (blk_below HFa.out hB3)
      have HG3 := Aside0.mk (blk_below HG2.out hB3)
      have HZ3 := Aside0.mk (show N ≤ w3.heap.size by have := hB3.size; simp at this; rw [HB6.out] at this; have := HZ2.out; omega)
      rw [HB6.out]
      clear hB3 hca hcb HI2 HS2 HFa HG2 HB6 HSZ HPS HPM
      go_wp2_with (fail)
      go_loopw [22] (fun i wr => ∃ j : Nat, j ≤ Z ∧ i = .int .i64 (j : Int) ∧ Aside0 (Inv (imgs permF shF nt Z (ps.take k) ++ vis shF nt a j) wr) ∧ Aside0 (Kd.S (Kd.slice 3 (Kd.int .i64)) 43 wr N (fun k => N ≤ k) (.slice (some ⟨gp, 0, none⟩) L c) ps) ∧ Aside0 (wr.heap[N]? = some (.cells #[.int .i64 (n : Int), .int .i64 (v : Int)] 23 (0, 0))) ∧ Aside0 (wr.heap[b6]? = some (.cells #[.int .i64 (n : Int), .int .i64 (a : Int)] 23 (0, 0))) ∧ Aside0 (N ≤ wr.heap.size)) (fun i _ => Z - (intOf i).toNat)
      case atStart => exact ⟨0, by omega, rfl, ⟨by simpa [vis] using HI3.out⟩, HS3, HF3, HG3, HZ3⟩
      case round =>
        obtain ⟨j, hj, rfl, HI, HS, HF0, HG0, HZ⟩ := hrel
        clear HI3 HS3 HF3 HG3 HZ3
        by_cases hjl : j < Z
        · have hs1 := HSH.out a j HP2.out hjl
          have hs2 := HNT.out a j HP2.out hjl
          have HVS := Aside0.mk (vis_succ shF nt a j)
          have HSC := Aside0.mk hs1
          have HNC := Aside0.mk hs2
          have HTC := Aside0.mk (HTT.out a j)
          have c60 : wr.cell? ⟨b6, 0, none⟩ = some (.int .i64 (n : Int)) := blk_cell HG0.out 0
          have c61 : wr.cell? ⟨b6, 1, none⟩ = some (.int .i64 (a : Int)) := blk_cell HG0.out 1
          clear hs1 hs2
          generalize shF a j = h at HSC HNC HVS HTC
          go_wp2_with (fail)
          refine (impl_Table_shift.calls (n : Int) (a : Int) (j : Int) _ _ wr HSC.out).mono ?_
          rintro e w4 ⟨rfl, hB4⟩
          have hz4 : N ≤ w4.heap.size := Nat.le_trans HZ.out hB4.size
          have HI4 := Aside0.mk (HST.out _ _ _ (HST.out _ _ _ HI.out (hB4.mono HZ.out)) (below_a hz4 (.cells #[.int .i64 (n : Int), .int .i64 (h : Int)] 23)))
          have HS4 := Aside0.mk (Kd.S_alloc (Kd.S_below HS.out hB4) (.cells #[.int .i64 (n : Int), .int .i64 (h : Int)] 23))
          have HF4 := Aside0.mk (blk_alloc (blk_below HF0.out hB4) (.cells #[.int .i64 (n : Int), .int .i64 (h : Int)] 23))
          have HG4 := Aside0.mk (blk_alloc (blk_below HG0.out hB4) (.cells #[.int .i64 (n : Int), .int .i64 (h : Int)] 23))
          have HH4 := Aside0.mk (blk_new w4 (.cells #[.int .i64 (n : Int), .int .i64 (h : Int)] 23))
          have hcall := HF.out _ h _ HI4.out (by simp; omega) (by have := both_len permF shF nt Z hZ ps k a j (by omega) (by omega); omega) HTC.out.1
          have HZ4 := Aside0.mk hz4
          have hb6N : N ≤ b6 := HZ2.out
          clear hB4 hz4 c60 c61 HI HS HF0 HG0 HZ HSC
          go_wp2_with (go_at_fn g; refine hcall.mono ?_; rintro e w5 ⟨rfl, hI5, hK5⟩; have c80 : w5.cell? ⟨w4.heap.size, 0, none⟩ = some (.int .i64 (n : Int)) := blk_cell (kept_block hK5 HH4.out (by have := HZ4.out; omega)) 0; have c81 : w5.cell? ⟨w4.heap.size, 1, none⟩ = some (.int .i64 (h : Int)) := blk_cell (kept_block hK5 HH4.out (by have := HZ4.out; omega)) 1)
          have HI5 := Aside0.mk hI5
          have HS5 := Aside0.mk (Kd.S_step HS4.out (fun q hq hl => hK5.2 q hl (by omega)))
          have HF5 := Aside0.mk (kept_block hK5 HF4.out (by omega))
          have HG5 := Aside0.mk (kept_block hK5 HG4.out (by omega))
          have HZ5 := Aside0.mk (show N ≤ w5.heap.size by have h1 := hK5.1; have h2 := HZ4.out; simp at h1; omega)
          clear hI5 hK5 HI4 HS4 HF4 HG4 HH4 hcall
          go_wp2_with (fail)
          refine (impl_Table_not.calls (n : Int) (h : Int) _ _ w5 HNC.out).mono ?_
          rintro e w6 ⟨rfl, hB6⟩
          have HI6 := Aside0.mk (HST.out _ _ _ HI5.out (hB6.mono HZ5.out))
          have HS6 := Aside0.mk (Kd.S_below HS5.out hB6)
          have HF6 := Aside0.mk (blk_below HF5.out hB6)
          have HG6 := Aside0.mk (blk_below HG5.out hB6)
          have HZ6 := Aside0.mk (Nat.le_trans HZ5.out hB6.size)
          have hcall := HF.out _ (nt h) _ HI6.out HZ6.out (by have := both_len permF shF nt Z hZ ps k a j (by omega) (by omega); rw [List.length_append, List.length_singleton]; omega) HTC.out.2
          clear hB6 c80 c81 HI5 HS5 HF5 HG5 HZ5 HNC
          go_wp2_with (go_at_fn g; refine hcall.mono ?_; rintro e w7 ⟨rfl, hI7, hK7⟩)
          have HI7 := Aside0.mk hI7
          have HS7 := Aside0.mk (Kd.S_step HS6.out (fun q hq hl => hK7.2 q hl (by omega)))
          have HF7 := Aside0.mk (kept_block hK7 HF6.out (by omega))
          have HG7 := Aside0.mk (kept_block hK7 HG6.out (by omega))
          have HZ7 := Aside0.mk (show N ≤ w7.heap.size by have h1 := hK7.1; have h2 := HZ6.out; omega)
          clear hI7 hK7 HI6 HS6 HF6 HG6 HZ6 hcall
          go_roundw
          case rel =>
            refine ⟨j + 1, by omega, by go_num, ⟨?_⟩, HS7, HF7, HG7, HZ7⟩
            rw [HVS.out, ← List.append_assoc, ← List.append_assoc]
            exact HI7.out
          case measure => simp [intOf]; omega
        · obtain rfl : j = Z := by omega
          go_wp2_with (fail)
          go_roundw
          case rel => exact ⟨k + 1, by omega, by go_num, ⟨by rw [HTK.out]; exact HI.out⟩, HS, HF0, HZ⟩
          case measure => simp [intOf]; omega
    · obtain rfl : k = L := by omega
      go_wp2_with (fail)
      refine bodyPost_end (v := .tuple #[]) (by simp [results, Try.results111, go_sem]) rfl ⟨rfl, ?_⟩
      have := HI.out
      rw [← HLe.out, List.take_length] at this
      exact this

set_option maxHeartbeats 4000000 in
set_option maxRecDepth 100000 in
theorem images_calls2 (g : Nat) (c0 c1 : Value) (eg : ∀ args w, (callFunc g args).run Try.prog w = .ok (.enter g args) w) (n v Z K : Nat) (hn : n ≤ 4) (hZ : Z ≤ 16) (ps : List (List Int)) (hL : ps.length ≤ 1000) (permF : List Int → Nat) (shF : Nat → Nat → Nat) (nt : Nat → Nat) (M : Nat)
    (hps : impl_permutations.f (n : Int) = some ps) (hsz : impl_Table_size.f (n : Int) (v : Int) = some (Z : Int)) (hpm : ∀ x ∈ ps, impl_Table_permute.f K (n : Int) (v : Int) x = some ((n : Int), (permF x : Int)) ∧ permF x < M) (hsh : ∀ a x, a < M → x < Z → impl_Table_shift.f (n : Int) (a : Int) (x : Int) = some ((n : Int), (shF a x : Int))) (hnt : ∀ a x, a < M → x < Z → impl_Table_not.f (n : Int) (shF a x : Int) = some ((n : Int), (nt (shF a x) : Int))) (T : Nat) (hT : ∀ a x, shF a x < T ∧ nt (shF a x) < T)
    (w : World) (Inv : List Nat → World → Prop) (hst : ∀ ws W W', Inv ws W → Below w.heap.size W W' → Inv ws W')
    (hf : ∀ ws (x : Nat) W, Inv ws W → w.heap.size ≤ W.heap.size → ws.length ≤ 100000 → x < T → Calls Try.prog g #[.agg #[.int .i64 (n : Int), .int .i64 (x : Int)], c0, c1] W fun e w' => e = .returned (.tuple #[]) ∧ Inv (ws ++ [x]) w' ∧ Kept W w' (fun k => k < w.heap.size))
    (h0 : Inv [] w) :
    Calls Try.prog 111 #[.agg #[.int .i64 (n : Int), .int .i64 (v : Int)], .func (.func g) #[] #[c0, c1]] w fun e w' => e = .returned (.tuple #[]) ∧ Inv (imgs permF shF nt Z ps) w' := by
  have HPS := Aside0.mk hps
  have HSZ := Aside0.mk hsz
  have HPM := Aside0.mk hpm
  have HSH := Aside0.mk hsh
  have HNT := Aside0.mk hnt
  have HTT := Aside0.mk hT
  have HST := Aside0.mk hst
  have HF := Aside0.mk hf
  have H0 := Aside0.mk h0
  obtain ⟨N, hN⟩ : ∃ N, w.heap.size = N := ⟨_, rfl⟩
  have HN := Aside0.mk hN
  rw [hN] at HST HF
  clear hps hsz hpm hsh hnt hst hf h0 hN hT
  go_enter Try.func111, Try.ntmps111
  go_wp2_with (fail)
  refine (impl_permutations.calls (n : Int) ps _ HPS.out).mono ?_
  rintro e w1 ⟨vp, rfl, hS, hB⟩
  obtain ⟨A, c, rfl⟩ := Kd.S_slice hS
  have HI1 := Aside0.mk (HST.out _ _ _ (HST.out _ w _ H0.out (by rw [← HN.out]; exact below_alloc (Below.refl _ _) (.cells #[.int .i64 (n : Int), .int .i64 (v : Int)] 23)))  (hB.mono (by rw [← HN.out]; simp)))
  have HS1 := Aside0.mk (Kd.S_lower (base' := N) (Kd.S_mono (ok' := fun k => N ≤ k) (Kd.S_bound hS) (fun k hk => by have := hk.2.1; rw [← HN.out]; simp at this; omega)) (by rw [← HN.out]; simp))
  have HF1 := Aside0.mk (show w1.heap[N]? = some (.cells #[.int .i64 (n : Int), .int .i64 (v : Int)] 23 (0, 0)) by
    rw [← HN.out]
    exact blk_below (blk_new w _) hB)
  have HZ1 := Aside0.mk (show N ≤ w1.heap.size by have := hB.size; rw [← HN.out]; simp at this; omega)
  rw [HN.out]
  clear hS hB H0
  obtain ⟨L, hLe⟩ : ∃ L, ps.length = L := ⟨_, rfl⟩
  rw [hLe] at hL HS1
  rw [hLe]
  have HLe := Aside0.mk hLe
  clear hLe
  go_wp2_with (fail)
  go_loopw [13] (fun i wr => ∃ k : Nat, k ≤ L ∧ i = .int .i64 (k : Int) ∧ Aside0 (Inv (imgs permF shF nt Z (ps.take k)) wr) ∧ Aside0 (Kd.S (Kd.slice 3 (Kd.int .i64)) 43 wr N (fun k => N ≤ k) (.slice A L c) ps) ∧ Aside0 (wr.heap[N]? = some (.cells #[.int .i64 (n : Int), .int .i64 (v : Int)] 23 (0, 0))) ∧ Aside0 (N ≤ wr.heap.size)) (fun i _ => L - (intOf i).toNat)
  case atStart => exact ⟨0, by omega, rfl, ⟨HI1.out⟩, HS1, HF1, HZ1⟩
  case round =>
    obtain ⟨k, hk, rfl, HI, HS, HF0, HZ⟩ := hrel
    clear HI1 HS1 HF1 HZ1
    by_cases hlt : k < L
    · obtain ⟨gp, cap, hv, -, -, -⟩ := Kd.S_form HS.out (by rw [HLe.out]; omega)
      injection hv with e1 e2 e3
      subst e1
      clear e2 e3
      obtain ⟨oki, cv, hcl, ⟨v1, rfl, hR⟩, hcc, hoki, hH⟩ := Kd.S_lend HS.out [] (k : Int) (by omega) (by omega)
      have hc : wr.cell? ⟨gp, k, none⟩ = some v1 := by
        have := hcc 0 v1 rfl
        simpa [Kd.slice] using this
      simp only [Int.toNat_natCast] at hR
      have hx : ps.getD k [] ∈ ps := by
        rw [List.getD_eq_getElem?_getD, List.getElem?_eq_getElem (by rw [HLe.out]; omega)]
        exact List.getElem_mem _
      have HTK := Aside0.mk (imgs_take permF shF nt Z ps k (by rw [HLe.out]; omega))
      obtain ⟨hp1, hp2⟩ := HPM.out _ hx
      generalize ps.getD k [] = x at hR hx hp1 hp2 HTK
      obtain ⟨A1, c1, rfl⟩ := Kd.R_slice hR
      have hrd := Kd.R_reads' hR
      have HC := Aside0.mk (impl_Table_permute.calls K (n : Int) (v : Int) A1 c1 x _ _ wr hrd.2.2 hrd.2.1 hp1)
      have hcf : wr.cell? ⟨N, 0, none⟩ = some (.int .i64 (n : Int)) := blk_cell HF0.out 0
      have hcf1 : wr.cell? ⟨N, 1, none⟩ = some (.int .i64 (v : Int)) := blk_cell HF0.out 1
      have HP2 := Aside0.mk hp2
      clear hR hrd hcc hoki hH hcl hx hp1 hp2
      generalize permF x = a at HC HP2 HTK
      go_wp2_with (fail)
      refine HC.out.mono ?_
      rintro e w2 ⟨rfl, hB2⟩
      have HF2 := Aside0.mk (blk_below HF0.out hB2)
      have HI2 := Aside0.mk (HST.out _ _ _ (HST.out _ _ _ HI.out (hB2.mono HZ.out)) (below_a (Nat.le_trans HZ.out hB2.size) (.cells #[.int .i64 (n : Int), .int .i64 (a : Int)] 23)))
      have HS2 := Aside0.mk (Kd.S_alloc (Kd.S_below HS.out hB2) (.cells #[.int .i64 (n : Int), .int .i64 (a : Int)] 23))
      have HZ2 := Aside0.mk (Nat.le_trans HZ.out hB2.size)
      have HFa := Aside0.mk (blk_alloc HF2.out (.cells #[.int .i64 (n : Int), .int .i64 (a : Int)] 23))
      have hca : (w2.alloc (.cells #[.int .i64 (n : Int), .int .i64 (a : Int)] 23)).cell? ⟨N, 0, none⟩ = some (.int .i64 (n : Int)) := blk_cell HFa.out 0
      have hcb : (w2.alloc (.cells #[.int .i64 (n : Int), .int .i64 (a : Int)] 23)).cell? ⟨N, 1, none⟩ = some (.int .i64 (v : Int)) := blk_cell HFa.out 1
      have HG2 := Aside0.mk (blk_new w2 (.cells #[.int .i64 (n : Int), .int .i64 (a : Int)] 23))
      obtain ⟨b6, hb6⟩ : ∃ b6, w2.heap.size = b6 := ⟨_, rfl⟩
      rw [hb6] at HZ2 HG2
      have HB6 := Aside0.mk hb6
      clear hB2 hcf hcf1 hc HC HI HS HF0 HZ HF2 hb6
      go_wp2_with (fail)
      refine (impl_Table_size.calls (n : Int) (v : Int) (Z : Int) _ HSZ.out).mono ?_
      rintro e w3 ⟨rfl, hB3⟩
      have HI3 := Aside0.mk (HST.out _ _ _ HI2.out (hB3.mono (by simp; rw [HB6.out]; have := HZ2.out; omega)))
      have HS3 := Aside0.mk (Kd.S_below HS2.out hB3)
      have HF3 := Aside0.mk (blk_below HFa.out hB3)
      have HG3 := Aside0.mk (blk_below HG2.out hB3)
      have HZ3 := Aside0.mk (show N ≤ w3.heap.size by have := hB3.size; simp at this; rw [HB6.out] at this; have := HZ2.out; omega)
      rw [HB6.out]
      clear hB3 hca hcb HI2 HS2 HFa HG2 HB6 HSZ HPS HPM
      go_wp2_with (fail)
      go_loopw [22] (fun i wr => ∃ j : Nat, j ≤ Z ∧ i = .int .i64 (j : Int) ∧ Aside0 (Inv (imgs permF shF nt Z (ps.take k) ++ vis shF nt a j) wr) ∧ Aside0 (Kd.S (Kd.slice 3 (Kd.int .i64)) 43 wr N (fun k => N ≤ k) (.slice (some ⟨gp, 0, none⟩) L c) ps) ∧ Aside0 (wr.heap[N]? = some (.cells #[.int .i64 (n : Int), .int .i64 (v : Int)] 23 (0, 0))) ∧ Aside0 (wr.heap[b6]? = some (.cells #[.int .i64 (n : Int), .int .i64 (a : Int)] 23 (0, 0))) ∧ Aside0 (N ≤ wr.heap.size)) (fun i _ => Z - (intOf i).toNat)
      case atStart => exact ⟨0, by omega, rfl, ⟨by simpa [vis] using HI3.out⟩, HS3, HF3, HG3, HZ3⟩
      case round =>
        obtain ⟨j, hj, rfl, HI, HS, HF0, HG0, HZ⟩ := hrel
        clear HI3 HS3 HF3 HG3 HZ3
        by_cases hjl : j < Z
        · have hs1 := HSH.out a j HP2.out hjl
          have hs2 := HNT.out a j HP2.out hjl
          have HVS := Aside0.mk (vis_succ shF nt a j)
          have HSC := Aside0.mk hs1
          have HNC := Aside0.mk hs2
          have HTC := Aside0.mk (HTT.out a j)
          have c60 : wr.cell? ⟨b6, 0, none⟩ = some (.int .i64 (n : Int)) := blk_cell HG0.out 0
          have c61 : wr.cell? ⟨b6, 1, none⟩ = some (.int .i64 (a : Int)) := blk_cell HG0.out 1
          clear hs1 hs2
          generalize shF a j = h at HSC HNC HVS HTC
          go_wp2_with (fail)
          refine (impl_Table_shift.calls (n : Int) (a : Int) (j : Int) _ _ wr HSC.out).mono ?_
          rintro e w4 ⟨rfl, hB4⟩
          have hz4 : N ≤ w4.heap.size := Nat.le_trans HZ.out hB4.size
          have HI4 := Aside0.mk (HST.out _ _ _ (HST.out _ _ _ HI.out (hB4.mono HZ.out)) (below_a hz4 (.cells #[.int .i64 (n : Int), .int .i64 (h : Int)] 23)))
          have HS4 := Aside0.mk (Kd.S_alloc (Kd.S_below HS.out hB4) (.cells #[.int .i64 (n : Int), .int .i64 (h : Int)] 23))
          have HF4 := Aside0.mk (blk_alloc (blk_below HF0.out hB4) (.cells #[.int .i64 (n : Int), .int .i64 (h : Int)] 23))
          have HG4 := Aside0.mk (blk_alloc (blk_below HG0.out hB4) (.cells #[.int .i64 (n : Int), .int .i64 (h : Int)] 23))
          have HH4 := Aside0.mk (blk_new w4 (.cells #[.int .i64 (n : Int), .int .i64 (h : Int)] 23))
          have hcall := HF.out _ h _ HI4.out (by simp; omega) (by have := both_len permF shF nt Z hZ ps k a j (by omega) (by omega); omega) HTC.out.1
          have HZ4 := Aside0.mk hz4
          have hb6N : N ≤ b6 := HZ2.out
          clear hB4 hz4 c60 c61 HI HS HF0 HG0 HZ HSC
          go_wp2_with (go_at_fn g; refine hcall.mono ?_; rintro e w5 ⟨rfl, hI5, hK5⟩; have c80 : w5.cell? ⟨w4.heap.size, 0, none⟩ = some (.int .i64 (n : Int)) := blk_cell (kept_block hK5 HH4.out (by have := HZ4.out; omega)) 0; have c81 : w5.cell? ⟨w4.heap.size, 1, none⟩ = some (.int .i64 (h : Int)) := blk_cell (kept_block hK5 HH4.out (by have := HZ4.out; omega)) 1)
          have HI5 := Aside0.mk hI5
          have HS5 := Aside0.mk (Kd.S_step HS4.out (fun q hq hl => hK5.2 q hl (by omega)))
          have HF5 := Aside0.mk (kept_block hK5 HF4.out (by omega))
          have HG5 := Aside0.mk (kept_block hK5 HG4.out (by omega))
          have HZ5 := Aside0.mk (show N ≤ w5.heap.size by have h1 := hK5.1; have h2 := HZ4.out; simp at h1; omega)
          clear hI5 hK5 HI4 HS4 HF4 HG4 HH4 hcall
          go_wp2_with (fail)
          refine (impl_Table_not.calls (n : Int) (h : Int) _ _ w5 HNC.out).mono ?_
          rintro e w6 ⟨rfl, hB6⟩
          have HI6 := Aside0.mk (HST.out _ _ _ HI5.out (hB6.mono HZ5.out))
          have HS6 := Aside0.mk (Kd.S_below HS5.out hB6)
          have HF6 := Aside0.mk (blk_below HF5.out hB6)
          have HG6 := Aside0.mk (blk_below HG5.out hB6)
          have HZ6 := Aside0.mk (Nat.le_trans HZ5.out hB6.size)
          have hcall := HF.out _ (nt h) _ HI6.out HZ6.out (by have := both_len permF shF nt Z hZ ps k a j (by omega) (by omega); rw [List.length_append, List.length_singleton]; omega) HTC.out.2
          clear hB6 c80 c81 HI5 HS5 HF5 HG5 HZ5 HNC
          go_wp2_with (go_at_fn g; refine hcall.mono ?_; rintro e w7 ⟨rfl, hI7, hK7⟩)
          have HI7 := Aside0.mk hI7
          have HS7 := Aside0.mk (Kd.S_step HS6.out (fun q hq hl => hK7.2 q hl (by omega)))
          have HF7 := Aside0.mk (kept_block hK7 HF6.out (by omega))
          have HG7 := Aside0.mk (kept_block hK7 HG6.out (by omega))
          have HZ7 := Aside0.mk (show N ≤ w7.heap.size by have h1 := hK7.1; have h2 := HZ6.out; omega)
          clear hI7 hK7 HI6 HS6 HF6 HG6 HZ6 hcall
          go_roundw
          case rel =>
            refine ⟨j + 1, by omega, by go_num, ⟨?_⟩, HS7, HF7, HG7, HZ7⟩
            rw [HVS.out, ← List.append_assoc, ← List.append_assoc]
            exact HI7.out
          case measure => simp [intOf]; omega
        · obtain rfl : j = Z := by omega
          go_wp2_with (fail)
          go_roundw
          case rel => exact ⟨k + 1, by omega, by go_num, ⟨by rw [HTK.out]; exact HI.out⟩, HS, HF0, HZ⟩
          case measure => simp [intOf]; omega
    · obtain rfl : k = L := by omega
      go_wp2_with (fail)
      refine bodyPost_end (v := .tuple #[]) (by simp [results, Try.results111, go_sem]) rfl ⟨rfl, ?_⟩
      have := HI.out
      rw [← HLe.out, List.take_length] at this
      exact this

end Go.Proofs.Ytijpcemcijaeeaa.P
