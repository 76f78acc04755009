/- The law FnExactTableOfTerms: its plain function answers true for all its arguments; and its walk. No conditions but those of the statement. -/
import Derived.Test.YtgkmgiojbiikgaaTot
import Derived.Test.YtgkmgiojbiikgaaTms
import Derived.Test.YtgkmgiojbiikgaaPLFnExactTableOfTerms
import Derived.Test.YtgkmgiojbiikgaaPLFnExactTableOfTerms
import Derived.Test.YtgkmgiojbiikgaaPv2
import Derived.Test.YtgkmgiojbiikgaaPz4
namespace Go.Proofs.Ytgkmgiojbiikgaa.P
set_option linter.unusedVariables false
set_option linter.unusedSimpArgs false
open Go.RowKit Go.Proofs.YtgkmgiojbiikgaaW.PrintWords Go.Proofs.YtgkmgiojbiikgaaW.PrintLast Go.Proofs.YtgkmgiojbiikgaaW.PrintMore
def laws_FnExactTableOfTerms.Pure : Prop := ∀ (a0 : Int) (l1 : List S26), (Lit.int .i64 a0).wf = true → l1.length * 16 ≤ 140737488351232 → (∀ x ∈ l1, (Lit.int .i64 x.f0).wf = true ∧ (Lit.int .i64 x.f1).wf = true) → ∃ k, laws_FnExactTableOfTerms.f k a0 l1 = some true
theorem laws_FnExactTableOfTerms.walk (P : laws_FnExactTableOfTerms.Pure) (a0 : Int) (a1 : Option Addr) (l1 : List S26) (cap1 : Nat) (w : World) (w0 : (Lit.int .i64 a0).wf = true) (hR : Kd.C k26 w a1 l1.length l1) (hc : l1.length ≤ cap1) (y1 : l1.length * 16 ≤ 140737488351232) (hw : ∀ x ∈ l1, (Lit.int .i64 x.f0).wf = true ∧ (Lit.int .i64 x.f1).wf = true) :
    Calls Try.prog 11 #[.int .i64 a0, .slice a1 l1.length cap1] w fun e w' => e = .returned (.bool true) ∧ Below w.heap.size w w' := by
  obtain ⟨k, h⟩ := P a0 l1 w0 y1 hw
  refine (laws_FnExactTableOfTerms.calls k a0 _ _ l1 true w hR hc ⟨rfl⟩ h).mono ?_
  rintro e w' ⟨rfl, hd⟩
  exact ⟨rfl, hd⟩
end Go.Proofs.Ytgkmgiojbiikgaa.P
namespace Go.Proofs.Ytgkmgiojbiikgaa.Pure
set_option linter.unusedVariables false
set_option linter.unusedSimpArgs false
open Go Go.RowKit Go.Proofs.Ytgkmgiojbiikgaa.P Go.Proofs.Ytgkmgiojbiikgaa.Bits Go.Proofs.Ytgkmgiojbiikgaa.Tab Go.Proofs.Ytgkmgiojbiikgaa.Tot Go.Proofs.Ytgkmgiojbiikgaa.Tms Go.Proofs.YtgkmgiojbiikgaaW.PrintWords Go.Proofs.YtgkmgiojbiikgaaW.PrintLast Go.Proofs.YtgkmgiojbiikgaaW.PrintMore

theorem FnExactTableOfTerms : laws_FnExactTableOfTerms.Pure := by
  intro n l _ hsz hwf
  obtain ⟨K, hK⟩ : ∃ K, K = 1048700 := ⟨_, rfl⟩
  refine ⟨K + 1, ?_⟩
  unfold laws_FnExactTableOfTerms.f laws_szTermS.f
  rw [w64 (by omega) (by omega)]
  by_cases hlen : (1048576 : Int) - (l.length : Int) < 0
  · rw [if_pos hlen]
    simp
  · rw [if_neg hlen]
    simp only [Option.bind_some]
    rw [if_neg hlen]
    have hl : l.length ≤ 1048576 := by omega
    have hl2 : (toT l).length = l.length := by simp [toT]
    have hw : ∀ t ∈ toT l, t.f1 ≤ 9223372036854775807 := by
      intro t ht
      unfold toT at ht
      rw [List.mem_map] at ht
      obtain ⟨x, hx, rfl⟩ := ht
      exact (bounds_i64 (hwf x hx).2).2
    obtain ⟨r, r1, r2⟩ := tot_same n (toT l) (by omega) hw
    rw [to_is l (by omega) (k := K + 1) (by omega)]
    simp only [Option.bind_some]
    rw [r1 (K + 1) (by omega)]
    simp only [Option.bind_some]
    rw [r2]
    simp only [Option.bind_some, laws_eqTable.f, if_true, bne_self_eq_false]
    simp only [laws_FnExactTableOfTerms.j0, Bool.false_eq_true, if_false]
    rw [to_is l (by omega) (k := K) (by omega)]
    simp only [Option.bind_some]
    rw [eq_self (toT l) (by omega) (k := K) (by omega)]
    simp

end Go.Proofs.Ytgkmgiojbiikgaa.Pure
