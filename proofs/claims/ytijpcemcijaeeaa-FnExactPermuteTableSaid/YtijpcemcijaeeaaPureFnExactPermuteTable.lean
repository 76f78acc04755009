/- The law FnExactPermuteTable: its plain function answers true for all its arguments. No conditions but those of the statement. -/
import Derived.Test.YtijpcemcijaeeaaPer
import Derived.Test.YtijpcemcijaeeaaRes
import Derived.Test.YtijpcemcijaeeaaInt
import Derived.Test.YtijpcemcijaeeaaPLFnExactPermuteTable
import Derived.Test.YtijpcemcijaeeaaPLFnExactPermuteTable
import Derived.Test.YtijpcemcijaeeaaPa0
import Derived.Test.YtijpcemcijaeeaaPa3
import Derived.Test.YtijpcemcijaeeaaPa4
import Derived.Test.YtijpcemcijaeeaaPer
import Derived.Test.YtijpcemcijaeeaaPx2
import Derived.Test.YtijpcemcijaeeaaPx7
namespace Go.Proofs.Ytijpcemcijaeeaa.Pure
set_option linter.unusedVariables false
set_option linter.unusedSimpArgs false
open Go Go.RowKit Go.Proofs.Ytijpcemcijaeeaa.P Go.Proofs.Ytijpcemcijaeeaa.Bits Go.Proofs.Ytijpcemcijaeeaa.Tab Go.Proofs.Ytijpcemcijaeeaa.Per Go.Proofs.YtijpcemcijaeeaaW.PrintWords Go.Proofs.YtijpcemcijaeeaaW.PrintLast Go.Proofs.YtijpcemcijaeeaaW.PrintMore

def Lb (n : Nat) (c : Nat → Nat) : Bool := (List.range n).all fun a => decide (c a < n) && (List.range a).all fun b => c b != c a
def Rb (n : Nat) (c : Nat → Nat) : Bool := (List.range n).all fun v => (List.range n).any fun a => c a == v
def look (a b c d e : Nat) : Nat → Nat
  | 0 => a
  | 1 => b
  | 2 => c
  | 3 => d
  | _ => e

theorem pig5 : ∀ a b c d e : Fin 6, (Lb 5 (look a.val b.val c.val d.val e.val) == Rb 5 (look a.val b.val c.val d.val e.val)) = true := by decide +kernel
theorem pig4 : ∀ (n : Fin 5) (a b c d : Fin 6), (Lb n.val (look a.val b.val c.val d.val 0) == Rb n.val (look a.val b.val c.val d.val 0)) = true := by decide +kernel

theorem Lb_iff (n : Nat) (c : Nat → Nat) : Lb n c = true ↔ ∀ a, a < n → c a < n ∧ ∀ b, b < a → c b ≠ c a := by
  unfold Lb
  simp only [List.all_eq_true, List.mem_range, Bool.and_eq_true, decide_eq_true_eq, bne_iff_ne]

theorem Rb_iff (n : Nat) (c : Nat → Nat) : Rb n c = true ↔ ∀ v, v < n → ∃ a, a < n ∧ c a = v := by
  unfold Rb
  simp only [List.all_eq_true, List.mem_range, List.any_eq_true, beq_iff_eq]

theorem look_at (c : Nat → Nat) {i : Nat} (h : i < 5) : look (c 0) (c 1) (c 2) (c 3) (c 4) i = c i := by
  match i, h with
  | 0, _ => rfl
  | 1, _ => rfl
  | 2, _ => rfl
  | 3, _ => rfl
  | 4, _ => rfl

theorem look_at4 (c : Nat → Nat) {i : Nat} (h : i < 4) : look (c 0) (c 1) (c 2) (c 3) 0 i = c i := by
  match i, h with
  | 0, _ => rfl
  | 1, _ => rfl
  | 2, _ => rfl
  | 3, _ => rfl

theorem pig (n : Nat) (hn : n ≤ 5) (c : Nat → Nat) (hc : ∀ a, c a < 6) : (∀ a, a < n → c a < n ∧ ∀ b, b < a → c b ≠ c a) ↔ ∀ v, v < n → ∃ a, a < n ∧ c a = v := by
  have key : ∀ f : Nat → Nat, (∀ i, i < n → f i = c i) → Lb n f = Rb n f → ((∀ a, a < n → c a < n ∧ ∀ b, b < a → c b ≠ c a) ↔ ∀ v, v < n → ∃ a, a < n ∧ c a = v) := by
    intro f hf h
    have h2 : (Lb n f = true) ↔ (Rb n f = true) := by rw [h]
    rw [Lb_iff, Rb_iff] at h2
    constructor
    · intro q v hv
      obtain ⟨a, h3, h4⟩ := h2.mp (fun a ha => ⟨by rw [hf a ha]; exact (q a ha).1, fun b hb => by rw [hf a ha, hf b (by omega)]; exact (q a ha).2 b hb⟩) v hv
      exact ⟨a, h3, by rw [← hf a h3]; exact h4⟩
    · intro q a ha
      have z := h2.mpr (fun v hv => by
        obtain ⟨a, h3, h4⟩ := q v hv
        exact ⟨a, h3, by rw [hf a h3]; exact h4⟩) a ha
      refine ⟨by rw [← hf a ha]; exact z.1, fun b hb => ?_⟩
      rw [← hf a ha, ← hf b (by omega)]
      exact z.2 b hb
  by_cases h5 : n = 5
  · subst h5
    exact key _ (fun i hi => look_at c hi) (eq_of_beq (pig5 ⟨c 0, hc 0⟩ ⟨c 1, hc 1⟩ ⟨c 2, hc 2⟩ ⟨c 3, hc 3⟩ ⟨c 4, hc 4⟩))
  · exact key _ (fun i hi => look_at4 c (by omega)) (eq_of_beq (pig4 ⟨n, by omega⟩ ⟨c 0, hc 0⟩ ⟨c 1, hc 1⟩ ⟨c 2, hc 2⟩ ⟨c 3, hc 3⟩))

def code (n : Nat) (x : Int) : Nat := if 0 ≤ x ∧ x ≤ (n : Int) - 1 then x.toNat else n
theorem code_lt (n : Nat) (x : Int) : code n x < n ↔ 0 ≤ x ∧ x ≤ (n : Int) - 1 := by
  unfold code
  split
  · omega
  · rename_i h
    constructor
    · intro q; omega
    · intro q; exact absurd q h
theorem code_in {n : Nat} {x : Int} (h : 0 ≤ x ∧ x ≤ (n : Int) - 1) : (code n x : Int) = x := by
  unfold code
  rw [if_pos h]
  omega

theorem orders (l : List Int) (n : Nat) (hn : n ≤ 5) (hl : l.length = n) : T l n 0 ↔ ∀ v : Nat, 0 ≤ v → v < n → ∃ a : Nat, a < l.length ∧ rd l a = (v : Int) := by
  have hc : ∀ a, code n (rd l (a : Nat)) < 6 := by
    intro a
    unfold code
    split <;> omega
  have p := pig n hn (fun a => code n (rd l (a : Nat))) hc
  constructor
  · rintro ⟨q, -⟩ v _ hv
    obtain ⟨a, h1, h2⟩ := p.mp (fun a ha => by
      obtain ⟨z1, z2⟩ := q a (by omega) (by omega)
      refine ⟨(code_lt n _).mpr z1, fun b hb => ?_⟩
      have zb := (q b (by omega) (by omega)).1
      have e1 := code_in z1
      have e2 := code_in zb
      have := z2 b hb
      omega) v hv
    refine ⟨a, by omega, ?_⟩
    have z := (code_lt n (rd l (a : Nat))).mp (by omega)
    have e := code_in z
    omega
  · intro q
    refine ⟨fun a _ ha => ?_, by omega⟩
    obtain ⟨z1, z2⟩ := p.mpr (fun v hv => by
      obtain ⟨a, h1, h2⟩ := q v (by omega) hv
      refine ⟨a, by omega, ?_⟩
      have e := code_in (n := n) (x := rd l (a : Nat)) (by omega)
      omega) a (by omega)
    have r1 := (code_lt n _).mp z1
    refine ⟨r1, fun b hb he => z2 b hb ?_⟩
    rw [he]

theorem moved_loop (l : List Int) (n x : Nat) (A w : Int) (hn : n ≤ 5) (hl : l.length = n) (hx : x < 32) (hr : ∀ a : Nat, a < n → 0 ≤ rd l a ∧ rd l a ≤ 4) : ∀ (d i q y : Nat), i + d = n → y < 2 ^ 5 → d < q →
    ∃ z : Nat, z < 2 ^ 5 ∧ impl_moved.l0 q (x : Int) (y : Int) l (n : Int) (i : Int) = some (z : Int) ∧ ∀ K, spec_l3Permute.l1 (K + d + 1) l A (x : Int) (y : Int) (i : Int) (n : Int) w = spec_l3Permute.l0 K l (bits .or .i64 A (shl .i64 (bits .and .i64 (shr .i64 w (x : Int)) 1) (z : Int))) ((x : Int) + 1) (n : Int) w := by
  intro d
  induction d with
  | zero =>
    intro i q y hi hy hq
    obtain ⟨q, rfl⟩ : ∃ z, q = z + 1 := ⟨q - 1, by omega⟩
    refine ⟨y, hy, ?_, ?_⟩
    · simp only [impl_moved.l0]
      rw [if_neg (by omega)]
    · intro K
      simp only [Nat.add_zero, spec_l3Permute.l1]
      rw [if_neg (by omega), if_pos (by omega), if_pos (by omega), w64 (by omega) (by omega)]
  | succ d ih =>
    intro i q y hi hy hq
    obtain ⟨q, rfl⟩ : ∃ z, q = z + 1 := ⟨q - 1, by omega⟩
    have hri := hr i (by omega)
    obtain ⟨p, hp⟩ := Int.eq_ofNat_of_zero_le hri.1
    have hb : (if x.testBit i then 2 ^ p else 0 : Nat) < 2 ^ 5 := by
      cases x.testBit i
      · show (0 : Nat) < 2 ^ 5; decide
      · exact Nat.pow_lt_pow_right (by decide) (by omega)
    have ho := or_bit y p (x.testBit i) (by omega) (by omega)
    have hlt := Nat.or_lt_two_pow hy hb
    obtain ⟨z, z1, z2, z3⟩ := ih (i + 1) q _ (by omega) hlt (by omega)
    refine ⟨z, z1, ?_, ?_⟩
    · simp only [impl_moved.l0]
      rw [if_pos (by omega), if_pos (by omega), if_pos (by omega), if_pos hri.1, shr_is (by omega), bit_is (by omega) (by omega) (by omega) (by omega), w64 (by omega) (by omega), hp]
      simp only [Int.toNat_natCast]
      rw [ho]
      exact z2
    · intro K
      rw [show K + (d + 1) + 1 = (K + d + 1) + 1 by omega]
      rw [spec_l3Permute.l1, if_pos (by omega), if_pos (by omega), if_pos (by omega), if_pos hri.1, shr_is (w := (x : Int)) (by omega), bit_is (w := (x : Int)) (by omega) (by omega) (by omega) (by omega), w64 (x := (i : Int) + 1) (by omega) (by omega), hp]
      simp only [Int.toNat_natCast]
      rw [ho]
      exact z3 K

theorem permute_loop (l : List Int) (n : Nat) (w : Int) (hn : n ≤ 5) (hl : l.length = n) (w0 : 0 ≤ w) (w1 : w ≤ 4294967296) (hr : ∀ a : Nat, a < n → 0 ≤ rd l a ∧ rd l a ≤ 4) : ∀ (d x k q A : Nat), x + d = 2 ^ n → A < 2 ^ 32 → 8 * d + 10 ≤ k → d + 10 ≤ q →
    ∃ r, spec_l3Permute.l0 k l (A : Int) (x : Int) (n : Int) w = some r ∧ impl_Table_permute.l0 q l ((2 ^ n : Nat) : Int) (x : Int) (n : Int) w (n : Int) (A : Int) = some r := by
  have h32 := pow_le_32 hn
  intro d
  induction d with
  | zero =>
    intro x k q A hx hA hk hq
    obtain ⟨k, rfl⟩ : ∃ z, k = z + 1 := ⟨k - 1, by omega⟩
    obtain ⟨q, rfl⟩ : ∃ z, q = z + 1 := ⟨q - 1, by omega⟩
    simp only [spec_l3Permute.l0, impl_Table_permute.l0]
    rw [if_pos (by omega), shl_two_nat hn, if_neg (by omega), if_neg (by omega)]
    exact ⟨_, rfl, rfl⟩
  | succ d ih =>
    intro x k q A hx hA hk hq
    obtain ⟨K, rfl⟩ : ∃ z, k = (z + n + 1) + 1 := ⟨k - n - 2, by omega⟩
    obtain ⟨q, rfl⟩ : ∃ z, q = z + 1 := ⟨q - 1, by omega⟩
    obtain ⟨z, z1, z2, z3⟩ := moved_loop l n x A w hn hl (by omega) hr n 0 q 0 (by omega) (by decide) (by omega)
    have z2' : impl_moved.f q (x : Int) l = some (z : Int) := by
      unfold impl_moved.f
      rw [hl]
      exact z2
    have hlt : (x : Int) < ((2 ^ n : Nat) : Int) := by exact_mod_cast (show x < 2 ^ n by omega)
    have hb : (if w.toNat.testBit x then 2 ^ z else 0 : Nat) < 2 ^ 32 := by
      cases w.toNat.testBit x
      · show (0 : Nat) < 2 ^ 32; decide
      · exact Nat.pow_lt_pow_right (by decide) (by omega)
    have ho := or_bit A z (w.toNat.testBit x) (Nat.lt_trans hA (by decide)) (by omega)
    have hA2 := Nat.or_lt_two_pow hA hb
    rw [spec_l3Permute.l0, if_pos (by omega), shl_two_nat hn, if_pos hlt]
    have e3 := z3 K
    rw [show ((0 : Nat) : Int) = 0 from rfl] at e3
    rw [e3, impl_Table_permute.l0, if_pos hlt, at_is w0 (by omega) (by omega) (by omega), z2', shr_is (by omega), bit_is w0 (by omega) (by omega) (by omega), w64 (by omega) (by omega)]
    simp only [Option.bind_some, Int.toNat_natCast]
    rw [if_pos (by omega), ho]
    exact ih (x + 1) K q _ (by omega) hA2 (by omega) (by omega)

theorem FnExactPermuteTable : laws_FnExactPermuteTable.Pure := by
  intro n w l _ _ hl0 hl1 _
  by_cases hs : (l.length : Int) > 1048576
  · exact ⟨0, by unfold laws_FnExactPermuteTable.f; rw [if_pos hs]⟩
  · obtain ⟨K, hK⟩ : ∃ K, K = l.length * (l.length + 3) + l.length + 400 := ⟨_, rfl⟩
    refine ⟨K + 1, ?_⟩
    have hc := fun k (hk : K ≤ k) => toInt_is l (by omega) (k := k) (by omega)
    obtain ⟨r, e1, e2⟩ : ∃ r, spec_PermuteTable.f (K + 1) n w l = some r ∧ impl_PermuteTable.f (K + 1) n w l = some r := by
      unfold spec_PermuteTable.f impl_PermuteTable.f
      simp only [spec_IsTable_is, impl_IsTable_is, Option.bind_some]
      cases h : isT n w
      · exact ⟨_, rfl, rfl⟩
      · obtain ⟨h0, h5, hw, hlm⟩ := isT_yes h
        have hl2 := lim_le n
        obtain ⟨N, rfl⟩ := Int.eq_ofNat_of_zero_le h0
        simp only [if_true]
        obtain ⟨b, b1, b2⟩ := perm_outer l N (by omega) h0 h5 l.length 0 (K + 1) (by omega) (by omega)
        have b1' : spec_l3Perm.f (K + 1) l (N : Int) = some b := b1
        rw [b1']
        unfold impl_isOrder.f
        by_cases hlen : (l.length : Int) = (N : Int)
        · rw [if_pos hlen]
          have hlen' : l.length = N := by omega
          obtain ⟨c, c1, c2⟩ := order_loop l N (by omega) (by omega) N 0 (K + 1) (by omega) (by omega)
          have c1' : impl_isOrder.l0 (K + 1) l (N : Int) 0 = some c := c1
          rw [c1']
          have hbc : b = c := by
            rw [Bool.eq_iff_iff, b2, c2]
            exact orders l N (by omega) hlen'
          subst hbc
          simp only [Option.bind_some]
          cases b
          · exact ⟨_, rfl, rfl⟩
          · simp only [if_true]
            have hT := b2.mp rfl
            have hr : ∀ a : Nat, a < N → 0 ≤ rd l a ∧ rd l a ≤ 4 := fun a ha => by
              have := (hT.1 a (by omega) (by omega)).1
              omega
            have h32 := pow_le_32 (show N ≤ 5 by omega)
            obtain ⟨r, r1, r2⟩ := permute_loop l N w (by omega) hlen' hw (by omega) hr (2 ^ N) 0 (K + 1) (K + 1) 0 (by omega) (by decide) (by omega) (by omega)
            have r1' : spec_l3Permute.f (K + 1) (N : Int) w l = some r := r1
            have r2' : impl_Table_permute.f (K + 1) (N : Int) w l = some r := by
              unfold impl_Table_permute.f
              rw [size_is h0 h5, two_nat (by omega)]
              exact r2
            rw [r1', r2']
            exact ⟨_, rfl, rfl⟩
        · rw [if_neg hlen]
          have hb : b = false := by
            cases b
            · rfl
            · exact absurd (b2.mp rfl).2 hlen
          subst hb
          exact ⟨_, rfl, rfl⟩
    have he := fun k (hk : K ≤ k) => eqInt_self l (by omega) (k := k) (by omega)
    unfold laws_FnExactPermuteTable.f laws_toTable.f laws_eqTable.f
    rw [if_neg hs]
    simp only [Option.bind_some, hc (K + 1) (by omega), e1, e2, if_true, bne_self_eq_false]
    simp only [laws_FnExactPermuteTable.j0, Bool.false_eq_true, if_false, hc K (by omega), he K (by omega), Option.bind_some, if_true]

end Go.Proofs.Ytijpcemcijaeeaa.Pure
