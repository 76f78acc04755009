/- The statement FnExactTableOfTerms: the law answers true for every number and every row of terms. No conditions but those of the statement. -/
import Derived.Test.YtgkmgiojbiikgaaRows
import Derived.Test.YtgkmgiojbiikgaaFacts
import Derived.Test.YtgkmgiojbiikgaaPLFnExactTableOfTerms
import Derived.Test.YtgkmgiojbiikgaaPureFnExactTableOfTerms
import Derived.WalkKit
import Derived.ProofKit
import Derived.OpenShut
import Derived.ShutString
import Derived.ChangeOld
import Derived.Below
import Derived.SizedLaws
import Derived.Lib.SmallJoins
import Derived.Deep.SlicePairs
namespace Go.Proofs.Ytgkmgiojbiikgaa.fnExactTableOfTerms
open Go.ChangeShapes Go.WideShapes Go.ChangeAt Go.RowKit Go.Joins Go.Proofs.YtgkmgiojbiikgaaW
open Go.ChangeMaps (open_string shut_string)
open Go.Proofs.YtgkmgiojbiikgaaW.PrintWords Go.Proofs.YtgkmgiojbiikgaaW.PrintLast Go.Proofs.YtgkmgiojbiikgaaW.PrintMore
set_option linter.unusedVariables false
theorem laidOut : laidOutB Try.prog = true := by kernel_rfl
theorem own : ownKnob Try.prog.godebug = none := by kernel_rfl

theorem choose_pairs {Q : Nat → Int → Int → Prop} {m : Nat} (h : ∀ i, i < m → ∃ a b : Int, Q i a b) : ∃ f : Nat → P.S26, ∀ i, i < m → Q i (f i).f0 (f i).f1 := by
  induction m with
  | zero => exact ⟨fun _ => P.z26, fun i hi => absurd hi (by omega)⟩
  | succ m ih =>
    obtain ⟨f, hf⟩ := ih (fun i hi => h i (by omega))
    obtain ⟨a, b, hab⟩ := h m (by omega)
    refine ⟨fun i => if i = m then ⟨a, b⟩ else f i, fun i hi => ?_⟩
    by_cases e : i = m
    · subst e
      simp only [if_true]
      exact hab
    · simp only [if_neg e]
      exact hf i (by omega)

set_option maxRecDepth 100000 in
theorem lifted (os : Os) (started : os.Started) (H : Type) (enc : TypeId × Value → H) :
    ReturnsInHanded {} Try.checked os 11 .any (Rows.fnExactTableOfTermsSpec.pre6 enc Try.prog Try.f11 Rows.fnExactTableOfTermsRow.domain false) (Rows.fnExactTableOfTermsSpec.post enc Try.prog Try.f11 false true false false) := by
  refine returnsInHanded_of_change_sized (C := Try.checked) own started (by kernel_rfl) Try.func11
    (ChangeSpec.witness6 (enc := enc) (C := Try.checked) false ⟨#[], #[.int .i64 0, .slice none 0 0], []⟩ 8 (by kernel_rfl) (by kernel_rfl) (by kernel_rfl) (by kernel_rfl)) ?_
  intro W base args ds gs before hval0 hW hcnd hsz0 _
  have hsz : (DataW.weightsEach Try.prog (Try.f11.params.toList ++ Rows.fnExactTableOfTermsSpec.plain.varTypes Try.prog) (ds ++ gs)).all (· ≤ reachBytes) = true := hsz0
  have hval : ∀ (j : Nat) t v, Try.f11.params[j]? = some t → args[j]? = some v → Value.okWide Try.prog W .any base t v := hval0
  have hW' := hW
  obtain ⟨p, q, hA0, hV, rfl, hfz, hnd⟩ := hW
  have hA : DataW.TrodAll enc Try.prog W 0 (fun _ => true) true Try.f11.params.toList args.toList ds p := hA0
  rw [Try.params11] at hA hval hsz
  obtain ⟨v0, vs0, d0, ds0, p0, q0, hargs, rfl, rfl, h0, r0⟩ := trodAll_cons hA
  obtain ⟨v1, vs1, d1, ds1, p1, q1, rfl, rfl, rfl, h1, r1⟩ := trodAll_cons r0
  obtain ⟨rfl, rfl, rfl⟩ := trodAll_nil r1
  obtain rfl : args = #[v0, v1] := by cases args; simp_all
  obtain ⟨rfl, rfl⟩ := trodVars_none hV
  obtain ⟨a0, rfl, rfl, rfl, w0⟩ := open_int Try.underlying3 (hval 0 3 v0 rfl rfl) h0
  obtain ⟨a1, len1, cap1, rfl⟩ := okWide_slice Try.underlying41 (hval 1 41 v1 rfl rfl)
  have k1 := h1
  have lt1 : ∀ x ∈ p1, x.block < W.heap.size := by obtain ⟨m, hm⟩ := k1; exact DataW.trod_lt m _ _ _ hm
  obtain ⟨l1, hR, hlen, hc, hw, y1⟩ : ∃ l1 : List P.S26, Kd.C P.k26 W a1 l1.length l1 ∧ len1 = l1.length ∧ l1.length ≤ cap1 ∧ (∀ x ∈ l1, (Lit.int .i64 x.f0).wf = true ∧ (Lit.int .i64 x.f1).wf = true) ∧ l1.length * 16 ≤ 140737488351232 := by
    obtain ⟨fuel, hf⟩ := h1
    rcases Go.Deep.open_slice_pairs Try.underlying41 Try.underlying26 (by kernel_rfl) rfl rfl (by kernel_rfl) (by kernel_rfl) hf with ⟨hcs, _⟩ | ⟨x, l, c, m, n, V0, V1, D0, D1, P0, P1, hcs, _, hl, hm, hmm, hx, hi⟩
    · simp [Value.cells] at hcs
      obtain ⟨rfl, rfl, rfl⟩ := hcs
      exact ⟨[], ⟨rfl, by simp, fun h => absurd h (by simp)⟩, rfl, by simp, by simp, by simp⟩
    · simp [Value.cells] at hcs
      obtain ⟨rfl, rfl, rfl⟩ := hcs
      simp only [if_true] at hmm
      subst hmm
      obtain ⟨f, hf2⟩ := choose_pairs (Q := fun i a b => W.cell? (x.add (i * 2)) = some (.int .i64 a) ∧ W.cell? (x.add (i * 2 + 1)) = some (.int .i64 b) ∧ (Lit.int .i64 a).wf = true ∧ (Lit.int .i64 b).wf = true) (m := m) (fun i him => by
        obtain ⟨g0, g1, g2, g3⟩ := hi i him
        obtain ⟨a, ea, _, wa⟩ := DataW.trod_int Try.underlying3 g2
        obtain ⟨b, eb, _, wb⟩ := DataW.trod_int Try.underlying3 g3
        simp at ea eb
        rw [ea] at g0
        rw [eb] at g1
        exact ⟨a, b, g0, g1, wa, wb⟩)
      have hll : ((List.range len1).map f).length = len1 := by simp
      have hmax : m ≤ 9223372036854775807 := by unfold maxLen at hm; omega
      refine ⟨(List.range len1).map f, ⟨rfl, by rw [hll]; omega, fun _ => ⟨x, rfl, fun j p hj => ?_⟩⟩, hll.symm, by rw [hll]; exact hl, ?_, ?_⟩
      · rw [List.getElem?_map] at hj
        have hjl : j < len1 := by
          rcases Nat.lt_or_ge j len1 with h | h
          · exact h
          · rw [List.getElem?_eq_none (by simpa using h)] at hj
            simp at hj
        rw [List.getElem?_range hjl] at hj
        simp only [Option.map_some, Option.some.injEq] at hj
        subst hj
        obtain ⟨g0, g1, _, _⟩ := hf2 j (by omega)
        refine ⟨_, rfl, P.k26_mk W (f j), fun i u hu => ?_⟩
        match i, hu with
        | 0, hu => simp at hu; rw [← hu]; exact g0
        | 1, hu => simp at hu; rw [← hu]; exact g1
        | i + 2, hu => simp at hu
      · intro y hy
        rw [List.mem_map] at hy
        obtain ⟨j, hj, rfl⟩ := hy
        have := hf2 j (by have := List.mem_range.1 hj; omega)
        exact ⟨this.2.2.1, this.2.2.2⟩
      · obtain ⟨hx1, _⟩ := Prod.mk.inj hx
        subst hx1
        have z := sized_slice hsz (j := 1) (t := 41) rfl rfl Try.underlying41
        have hb : Try.prog.bytesOf 26 = 16 := by kernel_rfl
        rw [hb] at z
        simp [reachBytes] at z
        rw [hll]
        omega
  subst hlen
  clear hA0 hval0 hsz0 hsz
  refine (P.laws_FnExactTableOfTerms.walk Pure.FnExactTableOfTerms a0 a1 l1 cap1 W w0 hR hc y1 hw).mono fun e W' ⟨he, bel⟩ => ?_
  subst he
  exact ⟨_, rfl, _, _, _, [], _, [], hW', trodAll_mk1 (shut_bool Try.underlying4 _), (trodAll_cons_mk (shut_int Try.underlying3 w0) (trodAll_cons_mk (Below.trod laidOut (by kernel_rfl) (of_decide_eq_true (by kernel_rfl)) k1 bel lt1) trodAll_mk0)), rfl, bel.frame _, fun h => by cases h⟩
theorem closed : joinedFacts Try.prog 11 Try.f11 Rows.fnExactTableOfTermsSpec Rows.fnExactTableOfTermsRow = true := by
  unfold joinedFacts
  exact Facts.joined_of (by kernel_rfl) Facts.mayEnter_yes (by rw [Facts.liftsFinal_no]; kernel_rfl) (by rw [Facts.make_is]; kernel_rfl) (by kernel_rfl) (by kernel_rfl) (by kernel_rfl) (by kernel_rfl)
theorem over : Rows.fnExactTableOfTermsRow.holds Try.pinned (OpenSpec.ofChange Rows.fnExactTableOfTermsSpec) :=
  OpenClaim.holds_of_wide 11 Try.f11 rfl rfl rfl rfl rfl rfl rfl ⟨rfl, rfl, rfl, rfl, rfl⟩ rfl rfl rfl rfl rfl (by kernel_rfl) Try.func11 closed
    (of_decide_eq_true (by kernel_rfl)) (by unfold Func.isWrapper; first | (rw [if_pos (by decide +kernel)]; kernel_rfl) | (rw [if_neg (by decide +kernel)]; exact ⟨rfl, rfl⟩))
    (fun os started H enc _ => lifted os started H enc)
theorem proved : Rows.FnExactTableOfTermsSaid := over
#print axioms proved
end Go.Proofs.Ytgkmgiojbiikgaa.fnExactTableOfTerms
namespace Go.Proofs.Ytgkmgiojbiikgaa
/-- The row, under a short name, for the claim. -/
theorem fnExactTableOfTerms_holds : Rows.FnExactTableOfTermsSaid := fnExactTableOfTerms.proved
end Go.Proofs.Ytgkmgiojbiikgaa
