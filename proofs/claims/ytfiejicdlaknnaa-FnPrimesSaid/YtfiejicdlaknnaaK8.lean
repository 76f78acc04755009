/- The draws of terms and of their texts: each comes to something within its bounds. Conditions: the bounds that stand in each. -/
import Derived.Test.YtfiejicdlaknnaaDrF
import Derived.Test.YtfiejicdlaknnaaK7
import Derived.Test.YtfiejicdlaknnaaK6
import Derived.Test.YtfiejicdlaknnaaPb1
import Derived.Test.YtfiejicdlaknnaaPb4
import Derived.Test.YtfiejicdlaknnaaPb5
import Derived.Test.YtfiejicdlaknnaaPx5
import Derived.Test.YtfiejicdlaknnaaK2
import Derived.Test.YtfiejicdlaknnaaPa0
import Derived.Test.YtfiejicdlaknnaaK5
import Derived.Test.YtfiejicdlaknnaaPv7
import Derived.Test.YtfiejicdlaknnaaPv8

namespace Go.Proofs.Ytfiejicdlaknnaa.Drw
set_option linter.unusedVariables false
set_option linter.unusedSimpArgs false
open Go Go.RowKit Go.Proofs.Ytfiejicdlaknnaa.P Go.Proofs.Ytfiejicdlaknnaa.Bits Go.Proofs.Ytfiejicdlaknnaa.Tab Go.Proofs.Ytfiejicdlaknnaa.Prm Go.Proofs.Ytfiejicdlaknnaa.Ess Go.Proofs.Ytfiejicdlaknnaa.Pms Go.Proofs.Ytfiejicdlaknnaa.Pmt Go.Proofs.YtfiejicdlaknnaaW.PrintWords Go.Proofs.YtfiejicdlaknnaaW.PrintLast Go.Proofs.YtfiejicdlaknnaaW.PrintMore
theorem picks5 : ∀ r : Fin 4, -1 ≤ rd [(-1), 1, 32, 9223372036854775807] (r.val : Int) ∧ rd [(-1), 1, 32, 9223372036854775807] (r.val : Int) ≤ 9223372036854775807 := by decide +kernel
theorem picks6 : ∀ r : Fin 7, -1 ≤ rd [4, 4, 3, 5, 0, (-1), 6] (r.val : Int) ∧ rd [4, 4, 3, 5, 0, (-1), 6] (r.val : Int) ≤ 6 := by decide +kernel
theorem once_ok (s0 : List Int) (hl : s0.length ≤ 1048576) (i st a : Int) (hi : 0 ≤ i) (ha : a ≤ 1000000000) : ∃ b i' st', spec_l1Once.f s0 i st a = some (b, i', st') ∧ 0 ≤ i' := by
 unfold spec_l1Once.f
 obtain ⟨r, i1, s1, e1, j1, -⟩ := below_ok s0 hl i st a hi ha
 rw [e1]
 exact ⟨_, _, _, rfl, j1⟩
theorem pick_ok (s0 : List Int) (hl : s0.length ≤ 1048576) (i st : Int) (hi : 0 ≤ i) (l : List Int) (h0 : 0 < l.length) (h1 : l.length ≤ 1000) : ∃ (r : Nat) (i' st' : Int), r < l.length ∧ spec_l1PickInt.f s0 i st l = some (rd l (r : Int), i', st') ∧ 0 ≤ i' := by
 unfold spec_l1PickInt.f
 obtain ⟨r, i1, s1, e1, j1, r0, r1, -⟩ := below_ok s0 hl i st (l.length : Int) hi (by omega)
 have hr := r1 (by omega)
 obtain ⟨R, rfl⟩ := Int.eq_ofNat_of_zero_le r0
 rw [e1]
 simp only [Option.bind_some]
 rw [if_pos r0, if_pos hr]
 exact ⟨R, _, _, by omega, rfl, j1⟩
theorem term_ok (s0 : List Int) (hl : s0.length ≤ 1048576) (i st : Int) (hi : 0 ≤ i) : ∃ m v i' st', spec_l6Draw.f s0 i st 4 = some (m, v, i', st') ∧ 0 ≤ m ∧ m ≤ 16 ∧ -1 ≤ v ∧ v ≤ 9223372036854775807 ∧ 0 ≤ i' := by
 have e16 : shl .i64 1 4 = 16 := by decide +kernel
 unfold spec_l6Draw.f
 rw [if_pos (by omega), e16]
 obtain ⟨m, i1, s1, e1, j1, m0, m1, -⟩ := below_ok s0 hl i st 16 hi (by omega)
 rw [e1]
 simp only [Option.bind_some]
 obtain ⟨q, i2, s2, e2, j2, q0, q1, -⟩ := below_ok s0 hl i1 s1 16 j1 (by omega)
 rw [e2]
 simp only [Option.bind_some]
 obtain ⟨b, i3, s3, e3, j3⟩ := once_ok s0 hl i2 s2 12 j2 (by omega)
 rw [e3]
 simp only [Option.bind_some]
 have hm := m1 (by omega)
 have hq := q1 (by omega)
 cases b
 ·rw [if_neg (by decide)]
  have ha := and_full m q q0 (by omega)
  exact ⟨_, _, _, _, rfl, m0, by omega, by omega, by omega, j3⟩
 ·rw [if_pos rfl]
  obtain ⟨r, i4, s4, hr, e4, j4⟩ := pick_ok s0 hl i3 s3 j3 [(-1), 1, 32, 9223372036854775807] (by decide) (by decide)
  rw [e4]
  have hp := picks5 ⟨r, hr⟩
  exact ⟨_, _, _, _, rfl, m0, by omega, hp.1, hp.2, j4⟩
theorem named_ok (l0 : List Int) (hl : l0.length ≤ 1048576) (K : Nat) (hK : l0.length + 1 ≤ K) : ∃ n m v, spec_l6Named.f K l0 = some (n, m, v) ∧ -1 ≤ n ∧ n ≤ 6 ∧ 0 ≤ m ∧ m ≤ 16 ∧ -1 ≤ v ∧ v ≤ 9223372036854775807 := by
 unfold spec_l6Named.f
 obtain ⟨h, e⟩ := new_ok l0 hl K (by omega)
 rw [e]
 simp only [Option.bind_some]
 obtain ⟨r, i1, s1, hr, e1, j1⟩ := pick_ok l0 hl 0 h (by omega) [4, 4, 3, 5, 0, (-1), 6] (by decide) (by decide)
 rw [e1]
 simp only [Option.bind_some]
 have hp := picks6 ⟨r, hr⟩
 obtain ⟨m, v, i2, s2, e2, b⟩ := term_ok l0 hl i1 s1 j1
 rw [e2]
 exact ⟨_, _, _, rfl, hp.1, hp.2, b.1, b.2.1, b.2.2.1, b.2.2.2.1⟩
theorem draw_format (l0 : List Int) (hl : l0.length ≤ 1048576) (K : Nat) (hK : l0.length + 1 ≤ K) : ∃ n m v, spec_DrawFormatTerm.f K l0 = some (n, m, v) ∧ -1 ≤ n ∧ n ≤ 6 ∧ 0 ≤ m ∧ m ≤ 16 ∧ -1 ≤ v ∧ v ≤ 9223372036854775807 := by
 unfold spec_DrawFormatTerm.f
 obtain ⟨n, m, v, e, b⟩ := named_ok l0 hl K hK
 rw [e]
 exact ⟨_, _, _, rfl, b⟩
theorem draw_min (l0 : List Int) (hl : l0.length ≤ 1048576) (K : Nat) (hK : l0.length + 60 ≤ K) : ∃ n w, spec_DrawMinimalSum.f K l0 = some (n, w) ∧ Int64 n ∧ Int64 w := by
 unfold spec_DrawMinimalSum.f
 obtain ⟨h, e⟩ := new_ok l0 hl K (by omega)
 rw [e]
 simp only [Option.bind_some]
 obtain ⟨n, w, i1, s1, e1, n1, w1, j1⟩ := any_ok l0 hl 0 h (by omega) K (by omega)
 rw [e1]
 exact ⟨n, w, rfl, n1, w1⟩
theorem draw_holds (l0 : List Int) (hl : l0.length ≤ 1048576) (K : Nat) (hK : l0.length + 1 ≤ K) : ∃ m v x, spec_DrawTermHolds.f K l0 = some (m, v, x) ∧ 0 ≤ m ∧ m ≤ 16 ∧ -1 ≤ v ∧ v ≤ 9223372036854775807 ∧ -1 ≤ x ∧ x ≤ 40 := by
 unfold spec_DrawTermHolds.f
 obtain ⟨h, e⟩ := new_ok l0 hl K (by omega)
 rw [e]
 simp only [Option.bind_some]
 obtain ⟨m, v, i2, s2, e2, b⟩ := term_ok l0 hl 0 h (by omega)
 rw [e2]
 simp only [Option.bind_some]
 obtain ⟨q, i3, s3, e3, j3, q0, q1, -⟩ := below_ok l0 hl i2 s2 34 b.2.2.2.2 (by omega)
 rw [e3]
 simp only [Option.bind_some]
 have hq := q1 (by omega)
 rw [w64 (by omega) (by omega)]
 exact ⟨_, _, _, rfl, b.1, b.2.1, b.2.2.1, b.2.2.2.1, by omega, by omega⟩
theorem tot_loop (s0 : List Int) (hl : s0.length ≤ 1048576) (n : Int) : ∀ (c K : Nat) (xs : List S33) (i st : Int), 0 ≤ i → c + 1 ≤ K → xs.length + c ≤ 1000 → (∀ t ∈ xs, t.f1 ≤ 9223372036854775807) →
  ∃ ys, spec_DrawTableOfTerms.l0 K n xs (c : Int) s0 i st = some (n, ys) ∧ ys.length ≤ 1000 ∧ ∀ t ∈ ys, t.f1 ≤ 9223372036854775807 := by
 intro c
 induction c with
 | zero =>
  intro K xs i st hi hK hx hb
  obtain ⟨K, rfl⟩ : ∃ q, K = q + 1 := ⟨K - 1, by omega⟩
  simp only [spec_DrawTableOfTerms.l0]
  rw [if_neg (by omega)]
  exact ⟨xs, rfl, by omega, hb⟩
 | succ c ih =>
  intro K xs i st hi hK hx hb
  obtain ⟨K, rfl⟩ : ∃ q, K = q + 1 := ⟨K - 1, by omega⟩
  obtain ⟨m, v, i2, s2, e2, b⟩ := term_ok s0 hl i st hi
  simp only [spec_DrawTableOfTerms.l0]
  rw [if_pos (by omega), e2]
  simp only [Option.bind_some]
  have hw : wrap64 (((c + 1 : Nat) : Int) - 1) = (c : Int) := by
   rw [w64 (by omega) (by omega)]
   omega
  rw [hw, if_pos (by omega)]
  refine ih K _ i2 s2 b.2.2.2.2 (by omega) (by rw [List.length_append, List.length_singleton]; omega) ?_
  intro t ht
  rcases List.mem_append.1 ht with h | h
  ·exact hb t h
  ·rw [List.mem_singleton.1 h]
   exact b.2.2.2.1
theorem draw_tot (l0 : List Int) (hl : l0.length ≤ 1048576) (K : Nat) (hK : l0.length + 20 ≤ K) : ∃ n ys, spec_DrawTableOfTerms.f K l0 = some (n, ys) ∧ ys.length ≤ 1000 ∧ ∀ t ∈ ys, t.f1 ≤ 9223372036854775807 := by
 unfold spec_DrawTableOfTerms.f
 obtain ⟨h, e⟩ := new_ok l0 hl K (by omega)
 rw [e]
 simp only [Option.bind_some]
 obtain ⟨r, i1, s1, hr, e1, j1⟩ := pick_ok l0 hl 0 h (by omega) [4, 4, 3, 5, 0, (-1), 6] (by decide) (by decide)
 rw [e1]
 simp only [Option.bind_some]
 obtain ⟨q, i3, s3, e3, j3, q0, q1, -⟩ := below_ok l0 hl i1 s1 4 j1 (by omega)
 rw [e3]
 simp only [Option.bind_some]
 have hq := q1 (by omega)
 obtain ⟨Q, rfl⟩ := Int.eq_ofNat_of_zero_le q0
 obtain ⟨ys, h1, h2, h3⟩ := tot_loop l0 hl (rd [4, 4, 3, 5, 0, (-1), 6] (r : Int)) Q K [] i3 s3 j3 (by omega) (by simp; omega) (by simp)
 exact ⟨_, ys, h1, h2, h3⟩
theorem both_ok (l0 : List Int) (hl : l0.length ≤ 1048576) (K : Nat) (hK : l0.length + 1400100 ≤ K) : ∃ n w m v, spec_DrawIsPrimeTerm.f K l0 = some (n, w, m, v) ∧ v ≤ 9223372036854775807 := by
 unfold spec_DrawIsPrimeTerm.f spec_l6Both.f
 obtain ⟨h, e⟩ := new_ok l0 hl K (by omega)
 rw [e]
 simp only [Option.bind_some]
 obtain ⟨n, w, i1, s1, e1, n1, w1, j1⟩ := any_ok l0 hl 0 h (by omega) K (by omega)
 rw [e1]
 simp only [Option.bind_some]
 obtain ⟨m, q, d, is, pr, es, -, hq, -, -, -, p1, -, -, -, hin, -⟩ := terms_law n w K (by omega)
 rw [p1]
 simp only [Option.bind_some]
 obtain ⟨K, rfl⟩ : ∃ q, K = q + 1 := ⟨K - 1, by omega⟩
 have no : ∀ i st : Int, 0 ≤ i → ∃ m v, spec_l6Both.j0 (K + 1) q false l0 i st n w = some (n, w, m, v) ∧ v ≤ 9223372036854775807 := by
  intro i st hi
  simp only [spec_l6Both.j0]
  rw [if_neg (by decide)]
  obtain ⟨m, v, i2, s2, e2, b⟩ := term_ok l0 hl i st hi
  rw [e2]
  exact ⟨_, _, rfl, b.2.2.2.1⟩
 have yes : ∀ (b : Bool) (i st : Int), 0 ≤ i → 0 < q.length → ∃ m v, spec_l6Both.j0 (K + 1) q b l0 i st n w = some (n, w, m, v) ∧ v ≤ 9223372036854775807 := by
  intro b i st hi h0
  cases b
  ·exact no i st hi
  ·simp only [spec_l6Both.j0]
   rw [if_pos trivial]
   obtain ⟨r, i3, s3, e3, j3, q0, q1, -⟩ := below_ok l0 hl i st (q.length : Int) hi (by omega)
   rw [e3]
   simp only [Option.bind_some]
   have hq1 := q1 (by omega)
   obtain ⟨R, rfl⟩ := Int.eq_ofNat_of_zero_le q0
   rw [if_pos q0, if_pos hq1]
   obtain ⟨N, W, -, -, h5, -, -, hmem⟩ := hin (rd_T33 q (R : Int)) (rd_mem (by omega))
   obtain ⟨a, u, ht, h1, h2, h3, h4⟩ := prime_nums h5 hmem
   refine ⟨_, _, rfl, ?_⟩
   rw [ht]
   show (u : Int) ≤ _
   omega
 have key : ∃ m v, (if pr = true then (if (q.length : Int) > 0 then ((spec_l1Once.f l0 i1 s1 2).bind fun bt523 => (spec_l6Both.j0 (K + 1) q bt523.1 l0 bt523.2.1 bt523.2.2 n w)) else (spec_l6Both.j0 (K + 1) q false l0 i1 s1 n w)) else (spec_l6Both.j0 (K + 1) q false l0 i1 s1 n w)) = some (n, w, m, v) ∧ v ≤ 9223372036854775807 := by
  split
  ·split
   ·obtain ⟨b, i3, s3, e3, j3⟩ := once_ok l0 hl i1 s1 2 j1 (by omega)
    rw [e3]
    exact yes b i3 s3 j3 (by omega)
   ·exact no i1 s1 j1
  ·exact no i1 s1 j1
 obtain ⟨m, v, k1, k2⟩ := key
 refine ⟨n, w, m, v, ?_, k2⟩
 rw [k1]
 rfl
theorem text_loop (s0 : List Int) (hl : s0.length ≤ 1048576) (sty : Int) : ∀ (c K : Nat) (xs : List Int) (i st : Int), 0 ≤ i → c + 1 ≤ K → xs.length + c ≤ 1000 → c ≤ 1000 →
  ∃ ys i' st', spec_l1Text.l0 K xs sty (c : Int) s0 i st = some (strOfNums ys, i', st') ∧ ys.length = xs.length + c := by
 intro c
 induction c with
 | zero =>
  intro K xs i st hi hK hx _
  obtain ⟨K, rfl⟩ : ∃ q, K = q + 1 := ⟨K - 1, by omega⟩
  simp only [spec_l1Text.l0]
  rw [if_neg (by omega)]
  exact ⟨xs, _, _, rfl, by omega⟩
 | succ c ih =>
  intro K xs i st hi hK hx hc
  obtain ⟨K, rfl⟩ : ∃ q, K = q + 1 := ⟨K - 1, by omega⟩
  obtain ⟨b, i1, s1, e1, b0, b1, j1⟩ := byte_ok s0 hl i st hi
  simp only [spec_l1Text.l0]
  rw [if_pos (by omega), e1]
  simp only [Option.bind_some]
  have hw : wrap64 (((c + 1 : Nat) : Int) - 1) = (c : Int) := by
   rw [w64 (by omega) (by omega)]
   omega
  rw [hw]
  have step : ∀ v : Int, ∃ ys i' st', spec_l1Text.l0 K (xs ++ [v]) sty (c : Int) s0 i1 s1 = some (strOfNums ys, i', st') ∧ ys.length = xs.length + (c + 1) := by
   intro v
   obtain ⟨ys, i', st', h1, h2⟩ := ih K (xs ++ [v]) i1 s1 j1 (by omega) (by rw [List.length_append, List.length_singleton]; omega) (by omega)
   exact ⟨ys, i', st', h1, by rw [h2, List.length_append, List.length_singleton]; omega⟩
  have hlen : xs.length < 140737488355328 := by omega
  by_cases h1 : sty = 1
  ·rw [if_pos h1, if_neg (by omega), if_pos hlen]
   exact step _
  ·rw [if_neg h1]
   by_cases h2 : sty = 2
   ·rw [if_pos h2, if_pos hlen]
    exact step _
   ·rw [if_neg h2, if_pos hlen]
    exact step _
theorem text_ok (s0 : List Int) (hl : s0.length ≤ 1048576) (i st : Int) (hi : 0 ≤ i) (K : Nat) (hK : 10 ≤ K) : ∃ r i' st', spec_l1Text.f K s0 i st 3 = some (r, i', st') ∧ r.size ≤ 100 := by
 unfold spec_l1Text.f
 obtain ⟨r, i1, s1, e1, j1, r0, r1, -⟩ := below_ok s0 hl i st 4 hi (by omega)
 rw [e1]
 simp only [Option.bind_some]
 have h4 : wrap64 ((3 : Int) + 1) = 4 := by rw [w64 (by omega) (by omega)]; rfl
 obtain ⟨c, i2, s2, e2, j2, c0, c1, -⟩ := below_ok s0 hl i1 s1 4 j1 (by omega)
 rw [h4, e2]
 simp only [Option.bind_some]
 have hc := c1 (by omega)
 obtain ⟨C, rfl⟩ := Int.eq_ofNat_of_zero_le c0
 obtain ⟨ys, i3, s3, e3, hy⟩ := text_loop s0 hl r C K [] i2 s2 j2 (by omega) (by simp; omega) (by omega)
 rw [e3]
 exact ⟨_, _, _, rfl, by rw [strOfNums_size, hy]; simp; omega⟩
theorem spoil_ok (s0 : List Int) (hl : s0.length ≤ 1048576) (i st : Int) (hi : 0 ≤ i) (a : ByteArray) (ha : a.size ≤ 20) (K : Nat) (hK : 10 ≤ K) : ∃ r i' st', spec_l1Spoil.f K s0 i st a = some (r, i', st') ∧ r.size ≤ 100 := by
 unfold spec_l1Spoil.f
 by_cases h0 : (a.size : Int) = 0
 ·rw [if_pos h0]
  obtain ⟨r, i1, s1, e1, b⟩ := text_ok s0 hl i st hi K hK
  rw [e1]
  exact ⟨_, _, _, rfl, b⟩
 ·rw [if_neg h0]
  obtain ⟨p, i1, s1, e1, j1, p0, p1, -⟩ := below_ok s0 hl i st (a.size : Int) hi (by omega)
  rw [e1]
  simp only [Option.bind_some]
  have hp := p1 (by omega)
  obtain ⟨P, rfl⟩ := Int.eq_ofNat_of_zero_le p0
  obtain ⟨q, i2, s2, e2, j2, -⟩ := below_ok s0 hl i1 s1 4 j1 (by omega)
  rw [e2]
  simp only [Option.bind_some]
  have hw : wrap64 ((P : Int) + 1) = ((P + 1 : Nat) : Int) := by
   rw [w64 (by omega) (by omega)]
   omega
  rw [hw]
  simp only [Int.toNat_natCast]
  have z0 : (a.extract 0 P).size ≤ 20 := by rw [ByteArray.size_extract]; omega
  have z1 : ∀ x, (a.extract x a.size).size ≤ 20 := fun x => by rw [ByteArray.size_extract]; omega
  have z2 : ∀ x : Int, (strOfNums [x]).size = 1 := fun x => by rw [strOfNums_size]; rfl
  have z3 : ∀ x : Int, (a.extract 0 P ++ strOfNums [x]).size ≤ 21 := fun x => by rw [ByteArray.size_append, z2]; omega
  have z1a := z1 (P + 1)
  have z1b := z1 P
  by_cases hq : q = 0
  ·rw [if_pos hq, if_pos p0, if_pos (by omega), if_pos (by omega), if_pos (by omega), if_pos (by omega)]
   exact ⟨_, _, _, rfl, by rw [ByteArray.size_append]; omega⟩
  ·rw [if_neg hq]
   by_cases hq1 : q = 1
   ·rw [if_pos hq1, if_pos p0, if_pos (by omega)]
    obtain ⟨b, i3, s3, e3, -⟩ := byte_ok s0 hl i2 s2 j2
    rw [e3]
    simp only [Option.bind_some]
    have y1 := z2 (b % 256)
    have y2 := z3 (b % 256)
    rw [if_pos (by omega), if_pos (by omega)]
    exact ⟨_, _, _, rfl, by rw [ByteArray.size_append]; omega⟩
   ·rw [if_neg hq1]
    by_cases hq2 : q = 2
    ·rw [if_pos hq2, if_pos p0, if_pos (by omega)]
     exact ⟨_, _, _, rfl, by omega⟩
    ·rw [if_neg hq2, if_pos p0, if_pos (by omega), if_pos (by omega)]
     obtain ⟨b, i3, s3, e3, -⟩ := below_ok s0 hl i2 s2 255 j2 (by omega)
     rw [e3]
     simp only [Option.bind_some]
     have y1 := z2 ((Go.bits .xor .i64 (wrap64 (bt a (P : Int))) (wrap64 (1 + b))) % 256)
     have y2 := z3 ((Go.bits .xor .i64 (wrap64 (bt a (P : Int))) (wrap64 (1 + b))) % 256)
     rw [if_pos (by omega), if_pos (by omega), if_pos (by omega), if_pos (by omega)]
     exact ⟨_, _, _, rfl, by rw [ByteArray.size_append]; omega⟩
def nine : List ByteArray := [(⟨#[]⟩ : ByteArray), (⟨#[49]⟩ : ByteArray), (⟨#[97, 97]⟩ : ByteArray), (⟨#[98, 97]⟩ : ByteArray), (⟨#[33]⟩ : ByteArray), (⟨#[97, 33]⟩ : ByteArray), (⟨#[33, 33, 97]⟩ : ByteArray), (⟨#[102]⟩ : ByteArray), (⟨#[97, 49]⟩ : ByteArray)]
theorem nine_small : ∀ r : Fin 9, (rdOf ByteArray.empty nine (r.val : Int)).size ≤ 100 := by decide +kernel
theorem draw_parse (l0 : List Int) (hl : l0.length ≤ 1048576) (K : Nat) (hK : l0.length + 100 ≤ K) : ∃ n s, spec_DrawParseTerm.f K l0 = some (n, s) ∧ -1 ≤ n ∧ n ≤ 6 ∧ s.size ≤ 100 := by
 unfold spec_DrawParseTerm.f
 obtain ⟨h, e⟩ := new_ok l0 hl K (by omega)
 rw [e]
 simp only [Option.bind_some]
 obtain ⟨n, m, v, e1, n0, n1, m0, m1, v0, v1⟩ := named_ok l0 hl K (by omega)
 rw [e1]
 simp only [Option.bind_some]
 obtain ⟨s, x0, x1, f1, f2, -⟩ := text_law n m v v1
 rw [(f1 K (by omega)).1]
 simp only [Option.bind_some]
 obtain ⟨q, i2, s2, e2, j2, -⟩ := below_ok l0 hl 0 h 4 (by omega) (by omega)
 rw [e2]
 simp only [Option.bind_some]
 by_cases hq : q = 0
 ·rw [if_pos hq]
  obtain ⟨r, i3, s3, e3, b⟩ := spoil_ok l0 hl i2 s2 j2 s f2 K (by omega)
  rw [e3]
  exact ⟨_, _, rfl, n0, n1, b⟩
 ·rw [if_neg hq]
  by_cases hq1 : q = 1
  ·rw [if_pos hq1]
   unfold spec_l1Pick.f
   obtain ⟨p, i3, s3, e3, j3, p0, p1, -⟩ := below_ok l0 hl i2 s2 9 j2 (by omega)
   have h9 : ((nine.length : Nat) : Int) = 9 := rfl
   show ∃ n_ s_, (((spec_l1Below.f l0 i2 s2 ((nine.length : Nat) : Int)).bind fun bt478 => (if 0 ≤ bt478.1 then (if bt478.1 < ((nine.length : Nat) : Int) then (some (rdOf ByteArray.empty nine bt478.1, bt478.2.1, bt478.2.2)) else (none)) else (none))).bind fun bt500 => some (n, bt500.1)) = some (n_, s_) ∧ _
   rw [h9, e3]
   simp only [Option.bind_some]
   have hp := p1 (by omega)
   obtain ⟨P, rfl⟩ := Int.eq_ofNat_of_zero_le p0
   rw [if_pos p0, if_pos hp]
   have hs := nine_small ⟨P, by omega⟩
   exact ⟨_, _, rfl, n0, n1, hs⟩
  ·rw [if_neg hq1]
   exact ⟨_, _, rfl, n0, n1, by omega⟩
end Go.Proofs.Ytfiejicdlaknnaa.Drw

namespace Go.Proofs.Ytfiejicdlaknnaa.Pmk
set_option linter.unusedVariables false
set_option linter.unusedSimpArgs false
open Go Go.RowKit Go.Proofs.Ytfiejicdlaknnaa.P Go.Proofs.Ytfiejicdlaknnaa.Bits Go.Proofs.Ytfiejicdlaknnaa.Tab Go.Proofs.Ytfiejicdlaknnaa.Shl Go.Proofs.Ytfiejicdlaknnaa.Imp Go.Proofs.Ytfiejicdlaknnaa.Pri Go.Proofs.Ytfiejicdlaknnaa.Prm Go.Proofs.Ytfiejicdlaknnaa.Ess Go.Proofs.Ytfiejicdlaknnaa.Tot Go.Proofs.Ytfiejicdlaknnaa.Pms Go.Proofs.YtfiejicdlaknnaaW.PrintWords Go.Proofs.YtfiejicdlaknnaaW.PrintLast Go.Proofs.YtfiejicdlaknnaaW.PrintMore
theorem same_loop (l : List S33) (hl : l.length ≤ 1048576) : ∀ (d i k : Nat), i + d = l.length → d < k → laws_sameTerms.l0 k l l (i : Int) = some true := by
 intro d
 induction d with
 | zero =>
  intro i k hi hk
  obtain ⟨k, rfl⟩ : ∃ q, k = q + 1 := ⟨k - 1, by omega⟩
  simp only [laws_sameTerms.l0]
  rw [if_neg (by omega)]
 | succ d ih =>
  intro i k hi hk
  obtain ⟨k, rfl⟩ : ∃ q, k = q + 1 := ⟨k - 1, by omega⟩
  simp only [laws_sameTerms.l0]
  rw [if_pos (by omega), if_pos (by omega), if_pos (by omega), w64 (by omega) (by omega), if_neg (by simp)]
  exact ih (i + 1) k (by omega) (by omega)
theorem same_self (l : List S33) (hl : l.length ≤ 1048576) {k : Nat} (hk : l.length < k) : laws_sameTerms.f k l l = some true := by
 unfold laws_sameTerms.f
 rw [if_pos rfl]
 exact same_loop l hl l.length 0 k (by omega) hk
theorem prime_same2 (n w m v : Int) (hv1 : v ≤ 9223372036854775807) (k : Nat) (hk : 50 ≤ k) : ∃ b, impl_IsPrimeTerm.f k n w m v = some b ∧ spec_IsPrimeTerm.f k n w m v = some b := by
 unfold impl_IsPrimeTerm.f spec_IsPrimeTerm.f
 simp only [Option.bind_some, spec_IsTable_is, impl_IsTable_is, spec_IsTerm_is, impl_IsTerm_is n m v hv1]
 cases h : isT n w
 ·exact ⟨false, by simp, by simp⟩
 ·cases g : isM n m v
  ·exact ⟨false, by simp, by simp⟩
  ·obtain ⟨h0, h5, hw, hl⟩ := isT_yes h
   have hl2 := lim_le n
   obtain ⟨N, a, u, rfl, hN, rfl, rfl, ha, _, _, hs⟩ := isM_nums g
   obtain ⟨r1, r2⟩ := prime_is N a u w hN ha hs hw (by omega) (k := k) (by omega)
   simp only [if_true]
   rw [r1, r2]
   exact ⟨_, rfl, rfl⟩
theorem imp_same2 (n w m v : Int) (hv1 : v ≤ 9223372036854775807) (k : Nat) (hk : 50 ≤ k) : ∃ b, impl_IsImplicant.f n w m v = some b ∧ spec_IsImplicant.f k n w m v = some b := by
 unfold impl_IsImplicant.f spec_IsImplicant.f
 simp only [Option.bind_some, spec_IsTable_is, impl_IsTable_is, spec_IsTerm_is, impl_IsTerm_is n m v hv1]
 cases h : isT n w
 ·exact ⟨false, by simp, by simp⟩
 ·cases g : isM n m v
  ·exact ⟨false, by simp, by simp⟩
  ·obtain ⟨h0, h5, hw, hl⟩ := isT_yes h
   obtain ⟨-, -, g0, g1, g2, g3, g4⟩ := of_decide_eq_true g
   have hl2 := lim_le n
   have ht2 := two_le n
   simp only [if_true]
   rw [implies_spec h0 h5 hw (by omega) g0 (by omega) g2 (by omega) (by omega), implies_impl h0 h5 hw (by omega) g0 g1 g2 g4]
   exact ⟨_, rfl, rfl⟩
theorem holds_same2 (m v x : Int) (hv1 : v ≤ 9223372036854775807) : ∃ b, impl_TermHolds.f m v x = some b ∧ spec_TermHolds.f m v x = some b := by
 unfold spec_TermHolds.f impl_TermHolds.f impl_Term_holds.f
 simp only [Option.bind_some, spec_IsTerm_is, impl_IsTerm_is 5 m v hv1, l1In_is, impl_isInput_is (show (0 : Int) ≤ 5 by decide) (show (5 : Int) ≤ 5 by decide)]
 have e : decide (0 ≤ x ∧ x < two 5) = decide (0 ≤ x ∧ x ≤ 31) := by
  have : two 5 = 32 := by decide +kernel
  rw [this, decide_eq_decide]
  omega
 rw [e]
 cases isM 5 m v
 ·exact ⟨false, by simp, by simp⟩
 ·by_cases h : 0 ≤ x ∧ x ≤ 31
  ·exact ⟨(bits BinOp.and IntKind.i64 x m == v), by simp [h], by simp [h]⟩
  ·exact ⟨false, by simp [h], by simp [h]⟩
theorem member (N W : Nat) (hN : N ≤ 5) (hT : isT (N : Int) (W : Int) = true) (t : S33) (ht : t ∈ primesL N W) (k : Nat) (hk : 50 ≤ k) : impl_IsPrimeTerm.f k (N : Int) (W : Int) t.f0 t.f1 = some true ∧ impl_IsImplicant.f (N : Int) (W : Int) t.f0 t.f1 = some true := by
 have hM := prime_good hN ht
 obtain ⟨h0, h5, hw, hl⟩ := isT_yes hT
 have hl2 := lim_le (N : Int)
 have ht2 := two_le (N : Int)
 obtain ⟨a, u, h1, h2, h3, rfl⟩ := (primesL_mem N W t).mp ht
 have h32 := Shl.pow_le_32 hN
 have hle : u &&& a ≤ a := Nat.and_le_right
 obtain ⟨r1, r2⟩ := prime_is N a u (W : Int) hN h1 h2 hw (by omega) (k := k) (by omega)
 rw [Int.toNat_natCast, h3] at r2
 have hi : im N W a u = true := by
  unfold prB at h3
  rw [Bool.and_eq_true] at h3
  exact h3.1
 have ei : impB (N : Int) (W : Int) (a : Int) (u : Int) = im N W a u := rfl
 have tn := Shl.two_nat hN
 have r3 := implies_impl (n := (N : Int)) (w := (W : Int)) (m := (a : Int)) (v := (u : Int)) (by omega) (by omega) (by omega) (by omega) (by omega) (by omega) (by omega) (by rw [Int.toNat_natCast, Int.toNat_natCast]; exact h2)
 rw [ei, hi] at r3
 unfold impl_IsPrimeTerm.f impl_IsImplicant.f
 simp only [impl_IsTable_is, hT, Option.bind_some, if_true]
 have hu : ((⟨(a : Int), (u : Int)⟩ : S33).f1) ≤ 9223372036854775807 := by
  show (u : Int) ≤ _
  omega
 rw [impl_IsTerm_is _ _ _ hu, hM]
 simp only [Option.bind_some, if_true]
 have r2' : impl_Table_isPrime.f k (N : Int) (W : Int) (⟨(a : Int), (u : Int)⟩ : S33).f0 (⟨(a : Int), (u : Int)⟩ : S33).f1 = some true := r2
 have r3' : impl_Table_isImplicant.f (N : Int) (W : Int) (⟨(a : Int), (u : Int)⟩ : S33).f0 (⟨(a : Int), (u : Int)⟩ : S33).f1 = some true := r3
 rw [r2', r3']
 exact ⟨rfl, rfl⟩
end Go.Proofs.Ytfiejicdlaknnaa.Pmk
