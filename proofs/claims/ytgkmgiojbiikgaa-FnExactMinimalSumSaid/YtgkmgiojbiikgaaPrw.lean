/- Prime terms and their words: what the reference's word and the program's test of a prime term come to. Conditions: the bounds that stand in each. -/
import Derived.Test.YtgkmgiojbiikgaaPrm
import Derived.Test.YtgkmgiojbiikgaaGmt
import Derived.Test.YtgkmgiojbiikgaaPz3
namespace Go.Proofs.Ytgkmgiojbiikgaa.Ess
set_option linter.unusedVariables false
set_option linter.unusedSimpArgs false
open Go Go.RowKit Go.Proofs.Ytgkmgiojbiikgaa.P Go.Proofs.Ytgkmgiojbiikgaa.Bits Go.Proofs.Ytgkmgiojbiikgaa.Tab Go.Proofs.Ytgkmgiojbiikgaa.Shl Go.Proofs.Ytgkmgiojbiikgaa.Imp Go.Proofs.Ytgkmgiojbiikgaa.Pri Go.Proofs.Ytgkmgiojbiikgaa.Prm Go.Proofs.YtgkmgiojbiikgaaW.PrintWords Go.Proofs.YtgkmgiojbiikgaaW.PrintLast Go.Proofs.YtgkmgiojbiikgaaW.PrintMore

theorem prime_nums {n W : Nat} {t : S28} (hn : n ≤ 5) (h : t ∈ primesL n W) : ∃ a u : Nat, t = ⟨(a : Int), (u : Int)⟩ ∧ a < 2 ^ n ∧ a < 32 ∧ u < 32 ∧ u &&& a = u := by
  obtain ⟨a, u, h1, h2, _, rfl⟩ := (primesL_mem n W t).mp h
  have := pow_le_32 hn
  have hle : u &&& a ≤ a := Nat.and_le_right
  exact ⟨a, u, rfl, h1, by omega, by omega, h2⟩

theorem holdsB_is {n W : Nat} {t : S28} (hn : n ≤ 5) (h : t ∈ primesL n W) {x : Nat} (hx : x < 32) : holdsB (x : Int) t = hold t x := by
  obtain ⟨a, u, rfl, h1, h2, h3, h4⟩ := prime_nums hn h
  unfold holdsB hold
  rw [and_int (by omega) (by omega) (by simp) (by simp; omega)]
  simp only [Int.toNat_natCast]
  rw [Bool.eq_iff_iff, beq_iff_eq, decide_eq_true_eq]
  omega

theorem word_is {n W : Nat} {t : S28} (hn : n ≤ 5) (h : t ∈ primesL n W) {k : Nat} (hk : 32 < k) : spec_l6Word.f k (n : Int) t.f0 t.f1 = some ((wordOf (hold t) (2 ^ n) : Nat) : Int) := by
  obtain ⟨a, u, rfl, h1, h2, h3, h4⟩ := prime_nums hn h
  have := pow_le_32 hn
  have e := word_loop n a u hn h2 h3 (2 ^ n) 0 k (by omega) (by omega)
  have e' : spec_l6Word.f k (n : Int) (a : Int) (u : Int) = some ((wt a u (2 ^ n) : Nat) : Int) := e
  rw [e']
  unfold wt
  rfl

theorem rd_at {l : List S28} {k : Nat} (h : k < l.length) : rd_T28 l (k : Int) = l[k] := by
  unfold rd_T28
  rw [Int.toNat_natCast, List.getD_eq_getElem?_getD, List.getElem?_eq_getElem h]
  rfl

end Go.Proofs.Ytgkmgiojbiikgaa.Ess
