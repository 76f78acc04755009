/- Varints as lists: the value that a run of bytes spells, what the encoder writes of a value, and when the two agree. No program in sight but the reference's encoder's loop. Conditions: the bounds that stand in each. -/
import Derived.Test.YtoolcfepploeiaaBits
import Derived.Laws.Strings
import Derived.Laws.BytesArg
import Derived.Test.YtoolcfepploeiaaPa1
namespace Go.Proofs.Ytoolcfepploeiaa.Var
set_option linter.unusedVariables false
set_option linter.unusedSimpArgs false
open Go Go.RowKit Go.Proofs.Ytoolcfepploeiaa.P Go.Proofs.Ytoolcfepploeiaa.Bits Go.Proofs.YtoolcfepploeiaaW.PrintWords Go.Proofs.YtoolcfepploeiaaW.PrintLast Go.Proofs.YtoolcfepploeiaaW.PrintMore

def encL : Nat → Int → List Int
  | 0, V => [V]
  | f + 1, V => if V ≥ 128 then (128 + V % 128) :: encL f (V / 128) else [V]

theorem enc_is : ∀ (d k : Nat) (V : Int) (xs : List Int), 0 ≤ V → V < 128 ^ (d + 1) → V ≤ 562949953421311 → d < k → xs.length + d ≤ 100 →
    spec_EncodeVarint.l0 k V xs = some (strOfNums (xs ++ encL d V)) := by
  intro d
  induction d with
  | zero =>
    intro k V xs h0 h1 _ hk hl
    obtain ⟨k, rfl⟩ : ∃ q, k = q + 1 := ⟨k - 1, by omega⟩
    have h1' : V < 128 := by simpa using h1
    simp only [spec_EncodeVarint.l0, encL]
    rw [if_neg (by omega), if_pos (show xs.length < 140737488355328 by omega), show V % 256 = V by omega]
  | succ d ih =>
    intro k V xs h0 h1 hb hk hl
    obtain ⟨k, rfl⟩ : ∃ q, k = q + 1 := ⟨k - 1, by omega⟩
    simp only [spec_EncodeVarint.l0, encL]
    by_cases hn : V ≥ 128
    · have hp : (128 : Int) ^ (d + 1 + 1) = 128 ^ (d + 1) * 128 := Int.pow_succ _ _
      rw [hp] at h1
      rw [if_pos hn, if_pos hn, if_pos (show xs.length < 140737488355328 by omega), Int.tdiv_eq_ediv_of_nonneg h0, Int.tmod_eq_emod_of_nonneg h0, w64 (x := V / 128) (by omega) (by omega), w64 (x := 128 + V % 128) (by omega) (by omega), show (128 + V % 128) % 256 = 128 + V % 128 by omega]
      have := ih k (V / 128) (xs ++ [128 + V % 128]) (by omega) (by omega) (by omega) (by omega) (by simp; omega)
      rw [this, List.append_assoc]
      rfl
    · rw [if_neg hn, if_neg hn, if_pos (show xs.length < 140737488355328 by omega), show V % 256 = V by omega]

/-- the value that c bytes from place a on spell -/
def vl (B : Nat → Int) : Nat → Nat → Int
  | _, 0 => 0
  | a, c + 1 => B a % 128 + 128 * vl B (a + 1) c

def seg (B : Nat → Int) : Nat → Nat → List Int
  | _, 0 => []
  | a, c + 1 => B a :: seg B (a + 1) c

def G (B : Nat → Int) : Nat → Nat → Prop
  | _, 0 => False
  | a, 1 => B a < 128
  | a, c + 2 => B a ≥ 128 ∧ G B (a + 1) (c + 1) ∧ vl B (a + 1) (c + 1) ≠ 0

theorem vl_nonneg (B : Nat → Int) : ∀ c a, 0 ≤ vl B a c := by
  intro c
  induction c with
  | zero => intro a; simp [vl]
  | succ c ih => intro a; have := ih (a + 1); simp only [vl]; omega

theorem vl_lt (B : Nat → Int) : ∀ c a, vl B a c < 128 ^ c := by
  intro c
  induction c with
  | zero => intro a; simp [vl]
  | succ c ih =>
    intro a
    have := ih (a + 1)
    have hp : (128 : Int) ^ (c + 1) = 128 ^ c * 128 := Int.pow_succ _ _
    simp only [vl]
    omega

theorem vl_snoc (B : Nat → Int) : ∀ c a, vl B a (c + 1) = vl B a c + B (a + c) % 128 * 128 ^ c := by
  intro c
  induction c with
  | zero => intro a; simp [vl]
  | succ c ih =>
    intro a
    have h := ih (a + 1)
    have hp : (128 : Int) ^ (c + 1) = 128 ^ c * 128 := Int.pow_succ _ _
    rw [vl, h, vl, hp, show a + 1 + c = a + (c + 1) by omega, Int.mul_add, ← Int.mul_assoc (B (a + (c + 1)) % 128), Int.mul_comm _ 128, Int.add_assoc]

theorem shape (B : Nat → Int) (hB : ∀ j, 0 ≤ B j ∧ B j ≤ 255) : ∀ (c d a : Nat), c ≤ d → (encL d (vl B a (c + 1)) = seg B a (c + 1) ↔ G B a (c + 1)) := by
  intro c
  induction c with
  | zero =>
    intro d a _
    have hb := hB a
    have e : vl B a 1 = B a % 128 := by simp [vl]
    have e2 : encL d (B a % 128) = [B a % 128] := by
      cases d with
      | zero => rfl
      | succ d => rw [encL, if_neg (by omega)]
    rw [e, e2]
    simp only [seg, G, List.cons.injEq, and_true]
    omega
  | succ c ih =>
    intro d a hd
    obtain ⟨d, rfl⟩ : ∃ q, d = q + 1 := ⟨d - 1, by omega⟩
    have hb := hB a
    have h0 := vl_nonneg B (c + 1) (a + 1)
    have ih' := ih d (a + 1) (by omega)
    rw [vl, G]
    generalize hV : vl B (a + 1) (c + 1) = V' at *
    by_cases hz : V' = 0
    · subst hz
      rw [encL, if_neg (by omega)]
      constructor
      · intro h
        simp [seg] at h
      · intro h
        exact absurd rfl h.2.2
    · rw [encL, if_pos (by omega), show (B a % 128 + 128 * V') % 128 = B a % 128 by omega, show (B a % 128 + 128 * V') / 128 = V' by omega, seg, List.cons.injEq, ih']
      constructor
      · rintro ⟨h1, h2⟩
        exact ⟨by omega, h2, hz⟩
      · rintro ⟨h1, h2, -⟩
        exact ⟨by omega, h2⟩

theorem G_high (B : Nat → Int) : ∀ (c a j : Nat), G B a (c + 1) → a ≤ j → j < a + c → B j ≥ 128 := by
  intro c
  induction c with
  | zero => intro a j _ h1 h2; omega
  | succ c ih =>
    intro a j h h1 h2
    obtain ⟨g1, g2, -⟩ := h
    by_cases e : j = a
    · subst e; exact g1
    · exact ih (a + 1) j g2 (by omega) (by omega)

theorem G_at (B : Nat → Int) (hB : ∀ j, 0 ≤ B j ∧ B j ≤ 255) : ∀ (c a : Nat), (∀ j, a ≤ j → j < a + c → B j ≥ 128) → (G B a (c + 1) ↔ B (a + c) < 128 ∧ (c = 0 ∨ B (a + c) ≠ 0)) := by
  intro c
  induction c with
  | zero => intro a _; simp [G]
  | succ c ih =>
    intro a h
    have ih' := ih (a + 1) (fun j h1 h2 => h j (by omega) (by omega))
    have ha := h a (by omega) (by omega)
    have hb := hB (a + (c + 1))
    rw [show a + 1 + c = a + (c + 1) by omega] at ih'
    rw [G, ih']
    constructor
    · rintro ⟨-, ⟨g1, g2⟩, g3⟩
      refine ⟨g1, Or.inr ?_⟩
      rcases g2 with rfl | g2
      · intro hz
        refine g3 ?_
        simp only [vl]
        rw [show a + 1 = a + (0 + 1) by omega, hz]
        rfl
      · exact g2
    · rintro ⟨g1, g2⟩
      have g3 : B (a + (c + 1)) ≠ 0 := g2.elim (fun q => absurd q (by omega)) id
      refine ⟨ha, ⟨g1, Or.inr g3⟩, ?_⟩
      have hs := vl_snoc B c (a + 1)
      rw [show a + 1 + c = a + (c + 1) by omega, show B (a + (c + 1)) % 128 = B (a + (c + 1)) by omega] at hs
      have h0 := vl_nonneg B c (a + 1)
      have hp : (0 : Int) < 128 ^ c := Int.pow_pos (by decide)
      have : 0 < B (a + (c + 1)) * 128 ^ c := Int.mul_pos (by omega) hp
      omega

theorem encL_range : ∀ (d : Nat) (V : Int), 0 ≤ V → V < 128 ^ (d + 1) → ∀ x ∈ encL d V, 0 ≤ x ∧ x ≤ 255 := by
  intro d
  induction d with
  | zero =>
    intro V h0 h1 x hx
    have h1' : V < 128 := by simpa using h1
    simp only [encL, List.mem_singleton] at hx
    omega
  | succ d ih =>
    intro V h0 h1 x hx
    have hp : (128 : Int) ^ (d + 1 + 1) = 128 ^ (d + 1) * 128 := Int.pow_succ _ _
    rw [hp] at h1
    rw [encL] at hx
    split at hx
    · rcases List.mem_cons.mp hx with rfl | hx
      · omega
      · exact ih (V / 128) (by omega) (by omega) x hx
    · rw [List.mem_singleton] at hx
      omega

theorem seg_range (B : Nat → Int) (hB : ∀ j, 0 ≤ B j ∧ B j ≤ 255) : ∀ (c a : Nat), ∀ x ∈ seg B a c, 0 ≤ x ∧ x ≤ 255 := by
  intro c
  induction c with
  | zero => intro a x hx; simp [seg] at hx
  | succ c ih =>
    intro a x hx
    rcases List.mem_cons.mp hx with rfl | hx
    · exact hB a
    · exact ih (a + 1) x hx

theorem nums_inj : ∀ (xs ys : List Int), (∀ x ∈ xs, 0 ≤ x ∧ x ≤ 255) → (∀ y ∈ ys, 0 ≤ y ∧ y ≤ 255) → (xs.map (fun n => UInt8.ofNat n.toNat) = ys.map (fun n => UInt8.ofNat n.toNat)) → xs = ys := by
  intro xs
  induction xs with
  | nil => intro ys _ _ h; cases ys with
    | nil => rfl
    | cons y ys => simp at h
  | cons x xs ih =>
    intro ys hx hy h
    cases ys with
    | nil => simp at h
    | cons y ys =>
      simp only [List.map_cons, List.cons.injEq] at h
      have h1 := hx x (by simp)
      have h2 := hy y (by simp)
      have e := congrArg UInt8.toNat h.1
      rw [UInt8.toNat_ofNat', UInt8.toNat_ofNat'] at e
      rw [Nat.mod_eq_of_lt (by omega), Nat.mod_eq_of_lt (by omega)] at e
      rw [ih ys (fun z hz => hx z (by simp [hz])) (fun z hz => hy z (by simp [hz])) h.2, show x = y by omega]
end Go.Proofs.Ytoolcfepploeiaa.Var
