/- CountTableClasses: all tables of few variables, each asked whether it is its own canonical table. No conditions but those that stand in the theorems. -/
import Derived.Test.YtijpcemcijaeeaaP0
import Derived.Test.YtijpcemcijaeeaaGca
import Derived.Lib.Hide
import Derived.RegionTactic
import Derived.Deep.RegionLaw

namespace Go.Proofs.Ytijpcemcijaeeaa.P
set_option linter.unusedVariables false
set_option linter.unusedSimpArgs false
open Go.RowKit Go.Proofs.Ytijpcemcijaeeaa.Bits Go.Proofs.Ytijpcemcijaeeaa.Tab Go.Proofs.YtijpcemcijaeeaaW.PrintWords Go.Proofs.YtijpcemcijaeeaaW.PrintLast Go.Proofs.YtijpcemcijaeeaaW.PrintMore
attribute [local go_sem] fld23_0 fld23_1

set_option maxHeartbeats 4000000 in
set_option maxRecDepth 100000 in
theorem all_calls (g : Nat) (c0 c1 : Value) (eg : ∀ args w, (callFunc g args).run Try.prog w = .ok (.enter g args) w) (n : Nat) (hn : n ≤ 3) (w : World) (Inv : Nat → World → Prop)
    (hf : ∀ (k : Nat) W, k < 2 ^ 2 ^ n → Inv k W → Calls Try.prog g #[.agg #[.int .i64 (n : Int), .int .i64 (k : Int)], c0, c1] W fun e w' => e = .returned (.tuple #[]) ∧ Inv (k + 1) w')
    (h0 : Inv 0 w) :
    Calls Try.prog 135 #[.int .i64 (n : Int), .func (.func g) #[] #[c0, c1]] w fun e w' => e = .returned (.tuple #[]) ∧ Inv (2 ^ 2 ^ n) w' := by
  have HF := Aside0.mk hf
  have H0 := Aside0.mk h0
  have u1 : IntKind.u64.wrap ((2 : Int) ^ n) = ((2 ^ n : Nat) : Int) := by
    have : n = 0 ∨ n = 1 ∨ n = 2 ∨ n = 3 := by omega
    rcases this with rfl | rfl | rfl | rfl <;> rfl
  have u2 : wrap64 ((2 : Int) ^ min (2 ^ n) 64) = ((2 ^ 2 ^ n : Nat) : Int) := by
    have : n = 0 ∨ n = 1 ∨ n = 2 ∨ n = 3 := by omega
    rcases this with rfl | rfl | rfl | rfl <;> decide +kernel
  have hM : 2 ^ 2 ^ n ≤ 256 := by
    have : n = 0 ∨ n = 1 ∨ n = 2 ∨ n = 3 := by omega
    rcases this with rfl | rfl | rfl | rfl <;> decide
  generalize 2 ^ 2 ^ n = M at *
  generalize (2 ^ n : Nat) = Z at *
  clear hf h0
  go_enter Try.func135, Try.ntmps135
  go_wp2_with (fail)
  simp only [u2]
  clear u1 u2
  go_loopw [8] (fun i wr => ∃ k : Nat, k ≤ M ∧ i = .int .i64 (k : Int) ∧ Aside0 (Inv k wr)) (fun i _ => M - (intOf i).toNat)
  case atStart => exact ⟨0, by omega, rfl, H0⟩
  case round =>
    obtain ⟨k, hk, rfl, HI⟩ := hrel
    by_cases hlt : k < M
    · have hcall := HF.out k wr hlt HI.out
      go_wp2_with (go_at_fn g; refine hcall.mono ?_; rintro e w5 ⟨rfl, hI5⟩)
      go_roundw
      case rel => exact ⟨k + 1, by omega, by go_num, ⟨hI5⟩⟩
      case measure => simp [intOf]; omega
    · obtain rfl : k = M := by omega
      go_wp2_with (fail)
      exact bodyPost_end (v := .tuple #[]) (by simp [results, Try.results135, go_sem]) rfl ⟨rfl, HI.out⟩

set_option maxHeartbeats 4000000 in
set_option maxRecDepth 100000 in
theorem canon_closure (n v : Nat) (hn : n ≤ 4) (hv : v < 2 ^ 2 ^ n) (w : World) :
    Calls Try.prog 115 #[.agg #[.int .i64 (n : Int), .int .i64 (v : Int)]] w fun e w' => e = .returned (.bool (decide ((words n v).foldl min v = v))) ∧ Below w.heap.size w w' := by
  have HC := Aside0.mk (fun W => canonical_nat n v hn hv W)
  generalize (words n v).foldl min v = r at HC
  by_cases hrv : r = v
  · subst hrv
    go_enter Try.func115, Try.ntmps115
    have HB0 := Aside0.mk (blk_new w (.cells #[.int .i64 (n : Int), .int .i64 (r : Int)] 23))
    have a0 : (w.alloc (.cells #[.int .i64 (n : Int), .int .i64 (r : Int)] 23)).cell? ⟨w.heap.size, 0, none⟩ = some (.int .i64 (n : Int)) := blk_cell HB0.out 0
    have a1 : (w.alloc (.cells #[.int .i64 (n : Int), .int .i64 (r : Int)] 23)).cell? ⟨w.heap.size, 1, none⟩ = some (.int .i64 (r : Int)) := blk_cell HB0.out 1
    go_wp2_with (fail)
    go_region_with ((go_at_call 116; refine (HC.out _).mono ?_; rintro e w' ⟨rfl, hb⟩; have k0 : w'.cell? ⟨w.heap.size, 0, none⟩ = some (.int .i64 (n : Int)) := blk_cell ((hb.block w.heap.size (by show w.heap.size < (w.alloc _).heap.size; simp)).trans HB0.out) 0; have k1 : w'.cell? ⟨w.heap.size, 1, none⟩ = some (.int .i64 (r : Int)) := blk_cell ((hb.block w.heap.size (by show w.heap.size < (w.alloc _).heap.size; simp)).trans HB0.out) 1; have HB1 := Aside0.mk hb; clear hb))
    all_goals go_wp2_with (fail)
    all_goals go_ret
    all_goals exact ⟨by first | exact (congrArg (fun b => Ending.returned (.bool b)) (decide_eq_false hrv)).symm | rfl | (simp; done), below_step (below_drew1 (below_alloc (Below.refl _ _) _)) HB1.out⟩
  · have hne : ((r : Int) == (v : Int)) = false := by rw [beq_eq_false_iff_ne]; omega
    have hne2 : ¬ ((r : Int) = (v : Int)) := by omega
    go_enter Try.func115, Try.ntmps115
    have HB0 := Aside0.mk (blk_new w (.cells #[.int .i64 (n : Int), .int .i64 (v : Int)] 23))
    have a0 : (w.alloc (.cells #[.int .i64 (n : Int), .int .i64 (v : Int)] 23)).cell? ⟨w.heap.size, 0, none⟩ = some (.int .i64 (n : Int)) := blk_cell HB0.out 0
    have a1 : (w.alloc (.cells #[.int .i64 (n : Int), .int .i64 (v : Int)] 23)).cell? ⟨w.heap.size, 1, none⟩ = some (.int .i64 (v : Int)) := blk_cell HB0.out 1
    go_wp2_with (fail)
    go_region_with ((go_at_call 116; refine (HC.out _).mono ?_; rintro e w' ⟨rfl, hb⟩; have k0 : w'.cell? ⟨w.heap.size, 0, none⟩ = some (.int .i64 (n : Int)) := blk_cell ((hb.block w.heap.size (by show w.heap.size < (w.alloc _).heap.size; simp)).trans HB0.out) 0; have k1 : w'.cell? ⟨w.heap.size, 1, none⟩ = some (.int .i64 (v : Int)) := blk_cell ((hb.block w.heap.size (by show w.heap.size < (w.alloc _).heap.size; simp)).trans HB0.out) 1; have HB1 := Aside0.mk hb; clear hb))
    all_goals go_wp2_with (fail)
    all_goals go_ret
    all_goals exact ⟨by first | exact (congrArg (fun b => Ending.returned (.bool b)) (decide_eq_false hrv)).symm | rfl | (simp; done), below_step (below_drew1 (below_alloc (Below.refl _ _) _)) HB1.out⟩

/-- How many tables below k are their own least word. -/
def canC (n : Nat) : Nat → Nat
  | 0 => 0
  | k + 1 => canC n k + if (words n k).foldl min k = k then 1 else 0
theorem canC_le (n : Nat) : ∀ k, canC n k ≤ k
  | 0 => Nat.le_refl _
  | k + 1 => by
    have := canC_le n k
    simp only [canC]
    split <;> omega

/-- What the caller's variables hold while allTables runs. -/
def TickInv (w : World) (bf bc n : Nat) (k : Nat) (W : World) : Prop := W.heap[bf]? = some (.cells #[.func (.func 115) #[] #[]] 72 (0, 0)) ∧ W.heap[bc]? = some (.cells #[.int .i64 ((canC n k : Nat) : Int)] 3 (0, 0)) ∧ Below w.heap.size w W

set_option maxHeartbeats 4000000 in
set_option maxRecDepth 100000 in
theorem tick_closure (w : World) (bf bc n k : Nat) (hn : n ≤ 3) (hk : k < 2 ^ 2 ^ n) (hbc : w.heap.size ≤ bc) (hne : bf ≠ bc) (W : World) (h : TickInv w bf bc n k W) :
    Calls Try.prog 136 #[.agg #[.int .i64 (n : Int), .int .i64 (k : Int)], .pointer (some ⟨bf, 0, none⟩), .pointer (some ⟨bc, 0, none⟩)] W fun e w' => e = .returned (.tuple #[]) ∧ TickInv w bf bc n (k + 1) w' := by
  obtain ⟨h1, h2, h3⟩ := h
  have hlf : bf < W.heap.size := (Array.getElem?_eq_some_iff.1 h1).1
  have hlc : bc < W.heap.size := (Array.getElem?_eq_some_iff.1 h2).1
  have hws := h3.size
  have hcl := canC_le n k
  have hl : 2 ^ 2 ^ n ≤ 65536 := lim4 (by omega)
  have eg : ∀ args w, (callFunc 115 args).run Try.prog w = .ok (.enter 115 args) w := fun args w => enters_of Try.func115 (by kernel_rfl) rfl args w
  have HC := Aside0.mk (fun W => canon_closure n k (by omega) hk W)
  have HS : canC n (k + 1) = canC n k + if decide ((words n k).foldl min k = k) = true then 1 else 0 := by
    simp only [canC, decide_eq_true_eq]
  generalize decide ((words n k).foldl min k = k) = r at HC HS
  generalize hc : canC n k = c at h2 hcl HS
  have H1 := Aside0.mk (blk_alloc h1 (.cells #[.int .i64 (n : Int), .int .i64 (k : Int)] 23))
  have H2 := Aside0.mk (blk_alloc h2 (.cells #[.int .i64 (n : Int), .int .i64 (k : Int)] 23))
  have H3 := Aside0.mk (below_alloc h3 (.cells #[.int .i64 (n : Int), .int .i64 (k : Int)] 23))
  have f0 : (W.alloc (.cells #[.int .i64 (n : Int), .int .i64 (k : Int)] 23)).cell? ⟨bf, 0, none⟩ = some (.func (.func 115) #[] #[]) := blk_cell H1.out 0
  have hlf2 : bf < (W.alloc (.cells #[.int .i64 (n : Int), .int .i64 (k : Int)] 23)).heap.size := by simp; omega
  have hlc2 : bc < (W.alloc (.cells #[.int .i64 (n : Int), .int .i64 (k : Int)] 23)).heap.size := by simp; omega
  have hws2 : w.heap.size ≤ (W.alloc (.cells #[.int .i64 (n : Int), .int .i64 (k : Int)] 23)).heap.size := by simp; omega
  have HSS := Aside0.mk HS
  have HCC := Aside0.mk hc
  clear h1 h2 h3 HS hc hlf hlc hws
  cases r
  · go_enter Try.func136, Try.ntmps136
    go_wp2_with (go_at_fn 115; refine (HC.out _).mono ?_; rintro e w5 ⟨rfl, hB⟩)
    refine bodyPost_end (v := .tuple #[]) (by simp [results, Try.results136, go_sem]) rfl ⟨rfl, (hB.block bf hlf2).trans H1.out, ?_, H3.out.trans (hB.mono hws2)⟩
    rw [HSS.out]
    exact (hB.block bc hlc2).trans H2.out
  · go_enter Try.func136, Try.ntmps136
    go_wp2_with (go_at_fn 115; refine (HC.out _).mono ?_; rintro e w5 ⟨rfl, hB⟩; have k0 : w5.cell? ⟨bc, 0, none⟩ = some (.int .i64 (c : Int)) := blk_cell ((hB.block bc hlc2).trans H2.out) 0; have k1 : w5.frozen? ⟨bc, 0, none⟩ = false := blk_frozen ((hB.block bc hlc2).trans H2.out) 0; have HB := Aside0.mk hB; clear hB)
    refine bodyPost_end (v := .tuple #[]) (by simp [results, Try.results136, go_sem]) rfl ⟨rfl, blk_far ((HB.out.block bf hlf2).trans H1.out) (by omega) _, ?_, below_set (H3.out.trans (HB.out.mono hws2)) hbc⟩
    rw [HSS.out]
    have := blk_put ((HB.out.block bc hlc2).trans H2.out) 0 (.int .i64 ((c + 1 : Nat) : Int)) rfl
    simpa using this

set_option maxHeartbeats 4000000 in
set_option maxRecDepth 100000 in
theorem tables_yes (n : Nat) (hn : n ≤ 3) (w : World) :
    Calls Try.prog 114 #[.int .i64 (n : Int), .int .i64 3, .func (.func 115) #[] #[]] w fun e w' => e = .returned (.int .i64 ((canC n (2 ^ 2 ^ n) : Nat) : Int)) ∧ Below w.heap.size w w' := by
  have eg : ∀ args w, (callFunc 136 args).run Try.prog w = .ok (.enter 136 args) w := fun args w => enters_of Try.func136 (by kernel_rfl) rfl args w
  have HI := Aside0.mk (fun (W : World) (bf bc : Nat) (h0 : TickInv w bf bc n 0 W) (hbc : w.heap.size ≤ bc) (hne : bf ≠ bc) => all_calls 136 (.pointer (some ⟨bf, 0, none⟩)) (.pointer (some ⟨bc, 0, none⟩)) eg n hn W (TickInv w bf bc n) (fun k W1 hk h => tick_closure w bf bc n k hn hk hbc hne W1 h) h0)
  have HF1 := Aside0.mk (blk_alloc (blk_new w (.cells #[.func (.func 115) #[] #[]] 72)) (.cells #[.int .i64 0] 3))
  have HF2 := Aside0.mk (blk_new (w.alloc (.cells #[.func (.func 115) #[] #[]] 72)) (.cells #[.int .i64 0] 3))
  have HB1 := Aside0.mk (below_alloc (below_alloc (Below.refl w.heap.size w) (.cells #[.func (.func 115) #[] #[]] 72)) (.cells #[.int .i64 0] 3))
  clear eg
  go_enter Try.func114, Try.ntmps114
  go_wp2_with (fail)
  refine (HI.out _ w.heap.size (w.heap.size + 1) ⟨HF1.out, by simpa [canC] using HF2.out, HB1.out⟩ (by omega) (by omega)).mono ?_
  rintro e w2 ⟨rfl, -, h2, h3⟩
  have c2 : w2.cell? ⟨w.heap.size + 1, 0, none⟩ = some (.int .i64 ((canC n (2 ^ 2 ^ n) : Nat) : Int)) := blk_cell h2 0
  have HB2 := Aside0.mk h3
  obtain ⟨r, hr⟩ : ∃ r, canC n (2 ^ 2 ^ n) = r := ⟨_, rfl⟩
  rw [hr] at c2
  have HR := Aside0.mk hr
  clear hr
  clear h2 h3 HI
  go_wp2_with (fail)
  go_ret
  exact ⟨by rw [HR.out]; rfl, HB2.out⟩

set_option maxHeartbeats 4000000 in
set_option maxRecDepth 100000 in
theorem tables_no (a : Int) (ha : ¬ (0 ≤ a ∧ a ≤ 3)) (w : World) :
    Calls Try.prog 114 #[.int .i64 a, .int .i64 3, .func (.func 115) #[] #[]] w fun e w' => e = .returned (.int .i64 (-1)) ∧ Below w.heap.size w w' := by
  have HB1 := Aside0.mk (below_alloc (Below.refl w.heap.size w) (.cells #[.func (.func 115) #[] #[]] 72))
  by_cases h0 : a < 0
  · go_enter Try.func114, Try.ntmps114
    go_wp2_with (fail)
    all_goals go_ret
    all_goals exact ⟨rfl, HB1.out⟩
  · have h3 : 3 < a := by omega
    clear ha
    go_enter Try.func114, Try.ntmps114
    go_wp2_with (fail)
    all_goals go_ret
    all_goals exact ⟨rfl, HB1.out⟩

def impl_CountTableClasses.f (a0 : Int) : Option Int := if 0 ≤ a0 ∧ a0 ≤ 3 then some ((canC a0.toNat (2 ^ 2 ^ a0.toNat) : Nat) : Int) else some (-1)

set_option maxHeartbeats 4000000 in
set_option maxRecDepth 100000 in
theorem impl_CountTableClasses.calls (a0 r : Int) (w : World) (h : impl_CountTableClasses.f a0 = some r) :
    Calls Try.prog 57 #[.int .i64 a0] w fun e w' => e = .returned (.int .i64 r) ∧ Below w.heap.size w w' := by
  have HC : Aside0 (Calls Try.prog 114 #[.int .i64 a0, .int .i64 3, .func (.func 115) #[] #[]] w fun e w' => e = .returned (.int .i64 r) ∧ Below w.heap.size w w') := by
    refine ⟨?_⟩
    unfold impl_CountTableClasses.f at h
    by_cases c : 0 ≤ a0 ∧ a0 ≤ 3
    · rw [if_pos c] at h
      obtain rfl := Option.some.inj h
      obtain ⟨n, rfl⟩ := Int.eq_ofNat_of_zero_le c.1
      simp only [Int.toNat_natCast]
      exact tables_yes n (by omega) w
    · rw [if_neg c] at h
      obtain rfl := Option.some.inj h
      exact tables_no a0 c w
  clear h
  go_enter Try.func57, Try.ntmps57
  go_wp2_with (fail)
  refine HC.out.mono ?_
  rintro e w1 ⟨rfl, hB⟩
  have HB := Aside0.mk hB
  clear hB HC
  go_wp2_with (fail)
  go_ret
  exact ⟨rfl, HB.out⟩
end Go.Proofs.Ytijpcemcijaeeaa.P
