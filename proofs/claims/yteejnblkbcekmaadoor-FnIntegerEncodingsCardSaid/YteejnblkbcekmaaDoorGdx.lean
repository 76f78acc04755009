/- strconv.Itoa and strconv.Atoi by the shelf's contracts, as plain functions; and the one fact on the heap that they lean on: how the table of ten's powers reads. No conditions but those that stand in the theorems. -/
import Derived.Test.YteejnblkbcekmaaDoorP0
import Derived.Test.YteejnblkbcekmaaDoorShf
import Derived.Lib.AppendIntMem
import Derived.Lib.AtoiErrMem
import Derived.WalkSmall
namespace Go.Proofs.YteejnblkbcekmaaDoor.P
set_option linter.unusedVariables false
set_option linter.unusedSimpArgs false
open Go.RowKit Go.Proofs.YteejnblkbcekmaaDoorW.PrintWords Go.Proofs.YteejnblkbcekmaaDoorW.PrintLast Go.Proofs.YteejnblkbcekmaaDoorW.PrintMore

/-- The table of ten's powers reads as its initialiser lays it. -/
def TB (w : World) : Prop := Lib.TabIs Tryd.prog w "internal/strconv.uint64pow10" .u64 Lib.pow10Tab
theorem gPow : ∃ g, Tryd.prog.globalNamed "internal/strconv.uint64pow10" = some g := Option.isSome_iff_exists.1 (by kernel_rfl)
theorem tb_below {w W : World} (h : Aside0 (TB w)) (hB : Below w.heap.size w W) : Aside0 (TB W) := by
  refine ⟨?_⟩
  obtain ⟨g, hg⟩ := gPow
  have hv := h.out
  unfold TB Lib.TabIs at hv ⊢
  refine var?_below hB hg ?_ hv
  unfold World.var? at hv
  rw [hg] at hv
  simp only [Option.bind_some] at hv
  rcases Nat.lt_or_ge g w.heap.size with q | q
  · exact q
  · rw [Array.getElem?_eq_none q] at hv
    cases hv

def strconv_Itoa_21.f (a0 : Int) : Option ByteArray := if -9223372036854775808 ≤ a0 ∧ a0 ≤ 9223372036854775807 then some ⟨(Lib.itoa a0).toArray⟩ else none
theorem strconv_Itoa_21.calls (a0 : Int) (r : ByteArray) (w : World) (h : strconv_Itoa_21.f a0 = some r) (HT : Aside0 (TB w)) :
    Calls Tryd.prog 21 #[.int .i64 a0] w fun e w' => e = .returned (.string r) ∧ Below w.heap.size w w' := by
  unfold strconv_Itoa_21.f at h
  split at h
  · rename_i c
    obtain rfl := Option.some.inj h
    refine (Tryd.strconv_Itoa a0 c.1 c.2 w HT.out).mono ?_
    rintro e w' ⟨rfl, k, os, rfl⟩
    exact ⟨rfl, Lib.below_grow w.heap.size w (Nat.le_refl _) k os⟩
  · cases h

def strconv_Atoi_23.f (a0 : ByteArray) : Option (Int × Option Int) := if a0.size ≤ 18 then (Lib.atoi a0.data.toList).map fun n => (n, none) else none
theorem strconv_Atoi_23.calls (a0 : ByteArray) (r1 : Int) (r2 : Option Int) (w : World) (h : strconv_Atoi_23.f a0 = some (r1, r2)) :
    Calls Tryd.prog 23 #[.string a0] w fun e w' => e = .returned (.tuple #[.int .i64 r1, errW r2]) ∧ Below w.heap.size w w' := by
  unfold strconv_Atoi_23.f at h
  split at h
  · rename_i c
    obtain ⟨n, hn, e⟩ := Option.map_eq_some_iff.1 h
    obtain ⟨rfl, rfl⟩ := Prod.mk.inj e
    refine (Tryd.strconv_Atoi a0 n c hn w).mono ?_
    rintro e w' ⟨rfl, t, rfl⟩
    exact ⟨rfl, Lib.bytesWorld_below w _ t⟩
  · cases h
end Go.Proofs.YteejnblkbcekmaaDoor.P
