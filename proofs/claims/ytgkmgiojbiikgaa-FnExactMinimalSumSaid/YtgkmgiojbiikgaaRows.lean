/-
  No cell of these rows narrows 'for every input' (looked for: loops, veiled, ifaces, maps, wideKeys, modest, calm, conditions, laid).
  DERIVED. THE GIVEN ROWS OF THIS SEAT. 15 by the template 'for every input the law returns true; each argument reads behind the call as it read before'; 0 by the template 'total and deterministic' (their statements: YtgkmgiojbiikgaaTotals.lean).
  GIVEN WITH THE SEED: the statements are not yours to turn. If you find one false, say at which input.
  Laid BY PROGRAM, IN A SANDBOX (cutbox-rows.mjs): the forced cells as the released guide's own fill.sh prints them over the translation 8a6fb6ae35ab0437… (all of the seat's roots in one cut). By AI agents, Wed Nov 11 2026. No macro, syntax, notation, axiom, sorry.
-/
import Derived.Test.YtgkmgiojbiikgaaChecked
import GoSem.Claim
import GoSem.ClaimJoined
import GoSem.ClaimMapViews
import Derived.JoinedTies
import Derived.KernelRfl
namespace Go.Proofs.Ytgkmgiojbiikgaa
/- THE CELL 'sum', in the pinned program and in every row, IS THE sha256 OF THE DUMP (.gsa) THAT YtgkmgiojbiikgaaProg.lean LOADS. Nothing in Lean hashes anything: it is a label: what it is worth is what the hold of that sum in a sandbox is worth. -/
noncomputable def Try.pinned : Pinned := { name := "ytgkmgiojbiikgaa", sum := "8a6fb6ae35ab043791358577e0bb3c7c48063bdeaed4557c8f4282988459b7cd", checked := Try.checked }
namespace Rows
def none {H : Type} : Left H := { results := [], args := [] }

/-- 'laws.FnExactIsFormula': WHATEVER THE INPUT: true; the input reads as it did. -/
def fnExactIsFormulaSpec : ChangeSpec := { name := "fnExactIsFormula", fn := fun _ => fun
  | [d] => { results := [.lit (.bool true)], args := [d] }
  | _ => none }
def fnExactIsFormulaRow : OpenClaim := { program := "ytgkmgiojbiikgaa", sum := "8a6fb6ae35ab043791358577e0bb3c7c48063bdeaed4557c8f4282988459b7cd", func := "loop.example/g03403/laws.FnExactIsFormula", spec := "fnExactIsFormula", recurses := true, plainKeys := false, apart := false }
def FnExactIsFormulaSaid : Prop := fnExactIsFormulaRow.holds Try.pinned (OpenSpec.ofChange fnExactIsFormulaSpec)

/-- ITS FALSE NEIGHBOUR: 'it returns false'. Refute it at one input. -/
def fnExactIsFormulaWrong : ChangeSpec := { name := "fnExactIsFormula", fn := fun _ => fun
  | [d] => { results := [.lit (.bool false)], args := [d] }
  | _ => none }
def FnExactIsFormulaWrongFalsely : Prop := fnExactIsFormulaRow.holds Try.pinned (OpenSpec.ofChange fnExactIsFormulaWrong)

/-- 'laws.FnExactIsReadOnce': WHATEVER THE INPUT: true; the input reads as it did. -/
def fnExactIsReadOnceSpec : ChangeSpec := { name := "fnExactIsReadOnce", fn := fun _ => fun
  | [d] => { results := [.lit (.bool true)], args := [d] }
  | _ => none }
def fnExactIsReadOnceRow : OpenClaim := { program := "ytgkmgiojbiikgaa", sum := "8a6fb6ae35ab043791358577e0bb3c7c48063bdeaed4557c8f4282988459b7cd", func := "loop.example/g03403/laws.FnExactIsReadOnce", spec := "fnExactIsReadOnce", inPlace := ["internal/bytealg.CountString", "internal/bytealg.IndexByteString", "internal/bytealg.IndexString"], recurses := true, named := ["internal/bytealg.MaxLen"], plainKeys := false, apart := false }
def FnExactIsReadOnceSaid : Prop := fnExactIsReadOnceRow.holds Try.pinned (OpenSpec.ofChange fnExactIsReadOnceSpec)

/-- ITS FALSE NEIGHBOUR: 'it returns false'. Refute it at one input. -/
def fnExactIsReadOnceWrong : ChangeSpec := { name := "fnExactIsReadOnce", fn := fun _ => fun
  | [d] => { results := [.lit (.bool false)], args := [d] }
  | _ => none }
def FnExactIsReadOnceWrongFalsely : Prop := fnExactIsReadOnceRow.holds Try.pinned (OpenSpec.ofChange fnExactIsReadOnceWrong)

/-- 'laws.FnExactDualFormula': WHATEVER THE INPUT: true; the input reads as it did. -/
def fnExactDualFormulaSpec : ChangeSpec := { name := "fnExactDualFormula", fn := fun _ => fun
  | [d] => { results := [.lit (.bool true)], args := [d] }
  | _ => none }
def fnExactDualFormulaRow : OpenClaim := { program := "ytgkmgiojbiikgaa", sum := "8a6fb6ae35ab043791358577e0bb3c7c48063bdeaed4557c8f4282988459b7cd", func := "loop.example/g03403/laws.FnExactDualFormula", spec := "fnExactDualFormula", inPlace := ["internal/bytealg.IndexByteString", "internal/bytealg.IndexString"], recurses := true, named := ["internal/bytealg.MaxLen"], plainKeys := false, apart := false }
def FnExactDualFormulaSaid : Prop := fnExactDualFormulaRow.holds Try.pinned (OpenSpec.ofChange fnExactDualFormulaSpec)

/-- ITS FALSE NEIGHBOUR: 'it returns false'. Refute it at one input. -/
def fnExactDualFormulaWrong : ChangeSpec := { name := "fnExactDualFormula", fn := fun _ => fun
  | [d] => { results := [.lit (.bool false)], args := [d] }
  | _ => none }
def FnExactDualFormulaWrongFalsely : Prop := fnExactDualFormulaRow.holds Try.pinned (OpenSpec.ofChange fnExactDualFormulaWrong)

/-- 'laws.FnExactIsMonotoneFormula': WHATEVER THE INPUT: true; the input reads as it did. -/
def fnExactIsMonotoneFormulaSpec : ChangeSpec := { name := "fnExactIsMonotoneFormula", fn := fun _ => fun
  | [d] => { results := [.lit (.bool true)], args := [d] }
  | _ => none }
def fnExactIsMonotoneFormulaRow : OpenClaim := { program := "ytgkmgiojbiikgaa", sum := "8a6fb6ae35ab043791358577e0bb3c7c48063bdeaed4557c8f4282988459b7cd", func := "loop.example/g03403/laws.FnExactIsMonotoneFormula", spec := "fnExactIsMonotoneFormula", inPlace := ["internal/bytealg.IndexByteString", "internal/bytealg.IndexString"], recurses := true, named := ["internal/bytealg.MaxLen"], plainKeys := false, apart := false }
def FnExactIsMonotoneFormulaSaid : Prop := fnExactIsMonotoneFormulaRow.holds Try.pinned (OpenSpec.ofChange fnExactIsMonotoneFormulaSpec)

/-- ITS FALSE NEIGHBOUR: 'it returns false'. Refute it at one input. -/
def fnExactIsMonotoneFormulaWrong : ChangeSpec := { name := "fnExactIsMonotoneFormula", fn := fun _ => fun
  | [d] => { results := [.lit (.bool false)], args := [d] }
  | _ => none }
def FnExactIsMonotoneFormulaWrongFalsely : Prop := fnExactIsMonotoneFormulaRow.holds Try.pinned (OpenSpec.ofChange fnExactIsMonotoneFormulaWrong)

/-- 'laws.FnExactFormatTerm': WHATEVER THE INPUT: true; the input reads as it did. -/
def fnExactFormatTermSpec : ChangeSpec := { name := "fnExactFormatTerm", fn := fun _ => fun
  | [d1, d2] => { results := [.lit (.bool true)], args := [d1, d2] }
  | _ => none }
def fnExactFormatTermRow : OpenClaim := { program := "ytgkmgiojbiikgaa", sum := "8a6fb6ae35ab043791358577e0bb3c7c48063bdeaed4557c8f4282988459b7cd", func := "loop.example/g03403/laws.FnExactFormatTerm", spec := "fnExactFormatTerm", plainKeys := false, apart := false }
def FnExactFormatTermSaid : Prop := fnExactFormatTermRow.holds Try.pinned (OpenSpec.ofChange fnExactFormatTermSpec)

/-- ITS FALSE NEIGHBOUR: 'it returns false'. Refute it at one input. -/
def fnExactFormatTermWrong : ChangeSpec := { name := "fnExactFormatTerm", fn := fun _ => fun
  | [d1, d2] => { results := [.lit (.bool false)], args := [d1, d2] }
  | _ => none }
def FnExactFormatTermWrongFalsely : Prop := fnExactFormatTermRow.holds Try.pinned (OpenSpec.ofChange fnExactFormatTermWrong)

/-- 'laws.FnExactIsImplicant': WHATEVER THE INPUT: true; the input reads as it did. -/
def fnExactIsImplicantSpec : ChangeSpec := { name := "fnExactIsImplicant", fn := fun _ => fun
  | [d1, d2] => { results := [.lit (.bool true)], args := [d1, d2] }
  | _ => none }
def fnExactIsImplicantRow : OpenClaim := { program := "ytgkmgiojbiikgaa", sum := "8a6fb6ae35ab043791358577e0bb3c7c48063bdeaed4557c8f4282988459b7cd", func := "loop.example/g03403/laws.FnExactIsImplicant", spec := "fnExactIsImplicant", plainKeys := false, apart := false }
def FnExactIsImplicantSaid : Prop := fnExactIsImplicantRow.holds Try.pinned (OpenSpec.ofChange fnExactIsImplicantSpec)

/-- ITS FALSE NEIGHBOUR: 'it returns false'. Refute it at one input. -/
def fnExactIsImplicantWrong : ChangeSpec := { name := "fnExactIsImplicant", fn := fun _ => fun
  | [d1, d2] => { results := [.lit (.bool false)], args := [d1, d2] }
  | _ => none }
def FnExactIsImplicantWrongFalsely : Prop := fnExactIsImplicantRow.holds Try.pinned (OpenSpec.ofChange fnExactIsImplicantWrong)

/-- 'laws.FnExactIsPrimeTerm': WHATEVER THE INPUT: true; the input reads as it did. -/
def fnExactIsPrimeTermSpec : ChangeSpec := { name := "fnExactIsPrimeTerm", fn := fun _ => fun
  | [d1, d2] => { results := [.lit (.bool true)], args := [d1, d2] }
  | _ => none }
def fnExactIsPrimeTermRow : OpenClaim := { program := "ytgkmgiojbiikgaa", sum := "8a6fb6ae35ab043791358577e0bb3c7c48063bdeaed4557c8f4282988459b7cd", func := "loop.example/g03403/laws.FnExactIsPrimeTerm", spec := "fnExactIsPrimeTerm", plainKeys := false, apart := false }
def FnExactIsPrimeTermSaid : Prop := fnExactIsPrimeTermRow.holds Try.pinned (OpenSpec.ofChange fnExactIsPrimeTermSpec)

/-- ITS FALSE NEIGHBOUR: 'it returns false'. Refute it at one input. -/
def fnExactIsPrimeTermWrong : ChangeSpec := { name := "fnExactIsPrimeTerm", fn := fun _ => fun
  | [d1, d2] => { results := [.lit (.bool false)], args := [d1, d2] }
  | _ => none }
def FnExactIsPrimeTermWrongFalsely : Prop := fnExactIsPrimeTermRow.holds Try.pinned (OpenSpec.ofChange fnExactIsPrimeTermWrong)

/-- 'laws.FnExactParseTerm': WHATEVER THE INPUT: true; the input reads as it did. -/
def fnExactParseTermSpec : ChangeSpec := { name := "fnExactParseTerm", fn := fun _ => fun
  | [d1, d2] => { results := [.lit (.bool true)], args := [d1, d2] }
  | _ => none }
def fnExactParseTermRow : OpenClaim := { program := "ytgkmgiojbiikgaa", sum := "8a6fb6ae35ab043791358577e0bb3c7c48063bdeaed4557c8f4282988459b7cd", func := "loop.example/g03403/laws.FnExactParseTerm", spec := "fnExactParseTerm", plainKeys := false, apart := false }
def FnExactParseTermSaid : Prop := fnExactParseTermRow.holds Try.pinned (OpenSpec.ofChange fnExactParseTermSpec)

/-- ITS FALSE NEIGHBOUR: 'it returns false'. Refute it at one input. -/
def fnExactParseTermWrong : ChangeSpec := { name := "fnExactParseTerm", fn := fun _ => fun
  | [d1, d2] => { results := [.lit (.bool false)], args := [d1, d2] }
  | _ => none }
def FnExactParseTermWrongFalsely : Prop := fnExactParseTermRow.holds Try.pinned (OpenSpec.ofChange fnExactParseTermWrong)

/-- 'laws.FnExactTableOfTerms': WHATEVER THE INPUT: true; the input reads as it did. -/
def fnExactTableOfTermsSpec : ChangeSpec := { name := "fnExactTableOfTerms", fn := fun _ => fun
  | [d1, d2] => { results := [.lit (.bool true)], args := [d1, d2] }
  | _ => none }
def fnExactTableOfTermsRow : OpenClaim := { program := "ytgkmgiojbiikgaa", sum := "8a6fb6ae35ab043791358577e0bb3c7c48063bdeaed4557c8f4282988459b7cd", func := "loop.example/g03403/laws.FnExactTableOfTerms", spec := "fnExactTableOfTerms", unfollowed := true, recurses := true, plainKeys := false, apart := false }
def FnExactTableOfTermsSaid : Prop := fnExactTableOfTermsRow.holds Try.pinned (OpenSpec.ofChange fnExactTableOfTermsSpec)

/-- ITS FALSE NEIGHBOUR: 'it returns false'. Refute it at one input. -/
def fnExactTableOfTermsWrong : ChangeSpec := { name := "fnExactTableOfTerms", fn := fun _ => fun
  | [d1, d2] => { results := [.lit (.bool false)], args := [d1, d2] }
  | _ => none }
def FnExactTableOfTermsWrongFalsely : Prop := fnExactTableOfTermsRow.holds Try.pinned (OpenSpec.ofChange fnExactTableOfTermsWrong)

/-- 'laws.FnExactPrimesOf': WHATEVER THE INPUT: true; the input reads as it did. -/
def fnExactPrimesOfSpec : ChangeSpec := { name := "fnExactPrimesOf", fn := fun _ => fun
  | [d] => { results := [.lit (.bool true)], args := [d] }
  | _ => none }
def fnExactPrimesOfRow : OpenClaim := { program := "ytgkmgiojbiikgaa", sum := "8a6fb6ae35ab043791358577e0bb3c7c48063bdeaed4557c8f4282988459b7cd", func := "loop.example/g03403/laws.FnExactPrimesOf", spec := "fnExactPrimesOf", plainKeys := false, apart := false }
def FnExactPrimesOfSaid : Prop := fnExactPrimesOfRow.holds Try.pinned (OpenSpec.ofChange fnExactPrimesOfSpec)

/-- ITS FALSE NEIGHBOUR: 'it returns false'. Refute it at one input. -/
def fnExactPrimesOfWrong : ChangeSpec := { name := "fnExactPrimesOf", fn := fun _ => fun
  | [d] => { results := [.lit (.bool false)], args := [d] }
  | _ => none }
def FnExactPrimesOfWrongFalsely : Prop := fnExactPrimesOfRow.holds Try.pinned (OpenSpec.ofChange fnExactPrimesOfWrong)

/-- 'laws.FnExactEssentialPrimes': WHATEVER THE INPUT: true; the input reads as it did. -/
def fnExactEssentialPrimesSpec : ChangeSpec := { name := "fnExactEssentialPrimes", fn := fun _ => fun
  | [d] => { results := [.lit (.bool true)], args := [d] }
  | _ => none }
def fnExactEssentialPrimesRow : OpenClaim := { program := "ytgkmgiojbiikgaa", sum := "8a6fb6ae35ab043791358577e0bb3c7c48063bdeaed4557c8f4282988459b7cd", func := "loop.example/g03403/laws.FnExactEssentialPrimes", spec := "fnExactEssentialPrimes", unfollowed := true, recurses := true, plainKeys := false, apart := false }
def FnExactEssentialPrimesSaid : Prop := fnExactEssentialPrimesRow.holds Try.pinned (OpenSpec.ofChange fnExactEssentialPrimesSpec)

/-- ITS FALSE NEIGHBOUR: 'it returns false'. Refute it at one input. -/
def fnExactEssentialPrimesWrong : ChangeSpec := { name := "fnExactEssentialPrimes", fn := fun _ => fun
  | [d] => { results := [.lit (.bool false)], args := [d] }
  | _ => none }
def FnExactEssentialPrimesWrongFalsely : Prop := fnExactEssentialPrimesRow.holds Try.pinned (OpenSpec.ofChange fnExactEssentialPrimesWrong)

/-- 'laws.FnExactMinimalSum': WHATEVER THE INPUT: true; the input reads as it did. -/
def fnExactMinimalSumSpec : ChangeSpec := { name := "fnExactMinimalSum", fn := fun _ => fun
  | [d] => { results := [.lit (.bool true)], args := [d] }
  | _ => none }
def fnExactMinimalSumRow : OpenClaim := { program := "ytgkmgiojbiikgaa", sum := "8a6fb6ae35ab043791358577e0bb3c7c48063bdeaed4557c8f4282988459b7cd", func := "loop.example/g03403/laws.FnExactMinimalSum", spec := "fnExactMinimalSum", unfollowed := true, recurses := true, plainKeys := false, apart := false }
def FnExactMinimalSumSaid : Prop := fnExactMinimalSumRow.holds Try.pinned (OpenSpec.ofChange fnExactMinimalSumSpec)

/-- ITS FALSE NEIGHBOUR: 'it returns false'. Refute it at one input. -/
def fnExactMinimalSumWrong : ChangeSpec := { name := "fnExactMinimalSum", fn := fun _ => fun
  | [d] => { results := [.lit (.bool false)], args := [d] }
  | _ => none }
def FnExactMinimalSumWrongFalsely : Prop := fnExactMinimalSumRow.holds Try.pinned (OpenSpec.ofChange fnExactMinimalSumWrong)

/-- 'laws.FnPrimes': WHATEVER THE INPUT: true; the input reads as it did. -/
def fnPrimesSpec : ChangeSpec := { name := "fnPrimes", fn := fun _ => fun
  | [d] => { results := [.lit (.bool true)], args := [d] }
  | _ => none }
def fnPrimesRow : OpenClaim := { program := "ytgkmgiojbiikgaa", sum := "8a6fb6ae35ab043791358577e0bb3c7c48063bdeaed4557c8f4282988459b7cd", func := "loop.example/g03403/laws.FnPrimes", spec := "fnPrimes", unfollowed := true, recurses := true, plainKeys := false, apart := false }
def FnPrimesSaid : Prop := fnPrimesRow.holds Try.pinned (OpenSpec.ofChange fnPrimesSpec)

/-- ITS FALSE NEIGHBOUR: 'it returns false'. Refute it at one input. -/
def fnPrimesWrong : ChangeSpec := { name := "fnPrimes", fn := fun _ => fun
  | [d] => { results := [.lit (.bool false)], args := [d] }
  | _ => none }
def FnPrimesWrongFalsely : Prop := fnPrimesRow.holds Try.pinned (OpenSpec.ofChange fnPrimesWrong)

/-- 'laws.FnExactIsTree': WHATEVER THE INPUT: true; the input reads as it did. -/
def fnExactIsTreeSpec : ChangeSpec := { name := "fnExactIsTree", fn := fun _ => fun
  | [d] => { results := [.lit (.bool true)], args := [d] }
  | _ => none }
def fnExactIsTreeRow : OpenClaim := { program := "ytgkmgiojbiikgaa", sum := "8a6fb6ae35ab043791358577e0bb3c7c48063bdeaed4557c8f4282988459b7cd", func := "loop.example/g03403/laws.FnExactIsTree", spec := "fnExactIsTree", recurses := true, plainKeys := false, apart := false }
def FnExactIsTreeSaid : Prop := fnExactIsTreeRow.holds Try.pinned (OpenSpec.ofChange fnExactIsTreeSpec)

/-- ITS FALSE NEIGHBOUR: 'it returns false'. Refute it at one input. -/
def fnExactIsTreeWrong : ChangeSpec := { name := "fnExactIsTree", fn := fun _ => fun
  | [d] => { results := [.lit (.bool false)], args := [d] }
  | _ => none }
def FnExactIsTreeWrongFalsely : Prop := fnExactIsTreeRow.holds Try.pinned (OpenSpec.ofChange fnExactIsTreeWrong)

/-- 'laws.FnExactLeastDepth': WHATEVER THE INPUT: true; the input reads as it did. -/
def fnExactLeastDepthSpec : ChangeSpec := { name := "fnExactLeastDepth", fn := fun _ => fun
  | [d] => { results := [.lit (.bool true)], args := [d] }
  | _ => none }
def fnExactLeastDepthRow : OpenClaim := { program := "ytgkmgiojbiikgaa", sum := "8a6fb6ae35ab043791358577e0bb3c7c48063bdeaed4557c8f4282988459b7cd", func := "loop.example/g03403/laws.FnExactLeastDepth", spec := "fnExactLeastDepth", recurses := true, plainKeys := false, apart := false }
def FnExactLeastDepthSaid : Prop := fnExactLeastDepthRow.holds Try.pinned (OpenSpec.ofChange fnExactLeastDepthSpec)

/-- ITS FALSE NEIGHBOUR: 'it returns false'. Refute it at one input. -/
def fnExactLeastDepthWrong : ChangeSpec := { name := "fnExactLeastDepth", fn := fun _ => fun
  | [d] => { results := [.lit (.bool false)], args := [d] }
  | _ => none }
def FnExactLeastDepthWrongFalsely : Prop := fnExactLeastDepthRow.holds Try.pinned (OpenSpec.ofChange fnExactLeastDepthWrong)

/- THE SECOND FORM. 'bulk': how many values and letters a reading holds, each counted each time it is reached (what is shared counts as often as it is met; a slice's spare places count too). A statement '..UptoSaid' is the law's where the arguments, and the package variables that the reading takes, are together of bulk at most 1048576: NARROWER than '..Said'. Prove '..Said' where nothing that the law and all that it calls make is longer than what came in: it says more and counts as full. Else prove '..UptoSaid'. A law counts once. -/
mutual
def uptoBulk {H : Type} : DataW H → Nat
  | .lit (.string bytes) => bytes.length + 1
  | .lit _ => 1
  | .nil => 1
  | .ptr d => uptoBulk d + 1
  | .slice elems spare => uptoBulkAll elems + uptoBulkAll spare + 1
  | .agg parts => uptoBulkAll parts + 1
  | .iface _ d => uptoBulk d + 1
  | .map entries => uptoBulkEntries entries + 1
  | .held _ => 1
def uptoBulkAll {H : Type} : List (DataW H) → Nat
  | [] => 0
  | d :: r => uptoBulk d + uptoBulkAll r
def uptoBulkEntries {H : Type} : List (Lit × DataW H) → Nat
  | [] => 0
  | x :: r => uptoBulkEntry x + uptoBulkEntries r
def uptoBulkEntry {H : Type} : Lit × DataW H → Nat
  | (.string bytes, d) => bytes.length + uptoBulk d + 1
  | (_, d) => uptoBulk d + 1
 end
def uptoSmall : (H : Type) → List (DataW H) → Bool := fun _ ds => decide (uptoBulkAll ds ≤ 1048576)
def OpenSpec.upto (s : _root_.Go.ChangeSpec) : _root_.Go.OpenSpec := { _root_.Go.OpenSpec.ofChange s with cond := some uptoSmall }

/-- 'laws.FnExactIsFormula', WHERE WHAT IT READS IS OF BULK AT MOST 1048576: true; the input reads as it did. -/
def fnExactIsFormulaUptoRow : OpenClaim := { program := "ytgkmgiojbiikgaa", sum := "8a6fb6ae35ab043791358577e0bb3c7c48063bdeaed4557c8f4282988459b7cd", func := "loop.example/g03403/laws.FnExactIsFormula", spec := "fnExactIsFormula", recurses := true, plainKeys := false, apart := false, narrowed := true }
def FnExactIsFormulaUptoSaid : Prop := fnExactIsFormulaUptoRow.holds Try.pinned (OpenSpec.upto fnExactIsFormulaSpec)

/-- 'laws.FnExactIsReadOnce', WHERE WHAT IT READS IS OF BULK AT MOST 1048576: true; the input reads as it did. -/
def fnExactIsReadOnceUptoRow : OpenClaim := { program := "ytgkmgiojbiikgaa", sum := "8a6fb6ae35ab043791358577e0bb3c7c48063bdeaed4557c8f4282988459b7cd", func := "loop.example/g03403/laws.FnExactIsReadOnce", spec := "fnExactIsReadOnce", inPlace := ["internal/bytealg.CountString", "internal/bytealg.IndexByteString", "internal/bytealg.IndexString"], recurses := true, named := ["internal/bytealg.MaxLen"], plainKeys := false, apart := false, narrowed := true }
def FnExactIsReadOnceUptoSaid : Prop := fnExactIsReadOnceUptoRow.holds Try.pinned (OpenSpec.upto fnExactIsReadOnceSpec)

/-- 'laws.FnExactDualFormula', WHERE WHAT IT READS IS OF BULK AT MOST 1048576: true; the input reads as it did. -/
def fnExactDualFormulaUptoRow : OpenClaim := { program := "ytgkmgiojbiikgaa", sum := "8a6fb6ae35ab043791358577e0bb3c7c48063bdeaed4557c8f4282988459b7cd", func := "loop.example/g03403/laws.FnExactDualFormula", spec := "fnExactDualFormula", inPlace := ["internal/bytealg.IndexByteString", "internal/bytealg.IndexString"], recurses := true, named := ["internal/bytealg.MaxLen"], plainKeys := false, apart := false, narrowed := true }
def FnExactDualFormulaUptoSaid : Prop := fnExactDualFormulaUptoRow.holds Try.pinned (OpenSpec.upto fnExactDualFormulaSpec)

/-- 'laws.FnExactIsMonotoneFormula', WHERE WHAT IT READS IS OF BULK AT MOST 1048576: true; the input reads as it did. -/
def fnExactIsMonotoneFormulaUptoRow : OpenClaim := { program := "ytgkmgiojbiikgaa", sum := "8a6fb6ae35ab043791358577e0bb3c7c48063bdeaed4557c8f4282988459b7cd", func := "loop.example/g03403/laws.FnExactIsMonotoneFormula", spec := "fnExactIsMonotoneFormula", inPlace := ["internal/bytealg.IndexByteString", "internal/bytealg.IndexString"], recurses := true, named := ["internal/bytealg.MaxLen"], plainKeys := false, apart := false, narrowed := true }
def FnExactIsMonotoneFormulaUptoSaid : Prop := fnExactIsMonotoneFormulaUptoRow.holds Try.pinned (OpenSpec.upto fnExactIsMonotoneFormulaSpec)

/-- 'laws.FnExactFormatTerm', WHERE WHAT IT READS IS OF BULK AT MOST 1048576: true; the input reads as it did. -/
def fnExactFormatTermUptoRow : OpenClaim := { program := "ytgkmgiojbiikgaa", sum := "8a6fb6ae35ab043791358577e0bb3c7c48063bdeaed4557c8f4282988459b7cd", func := "loop.example/g03403/laws.FnExactFormatTerm", spec := "fnExactFormatTerm", plainKeys := false, apart := false, narrowed := true }
def FnExactFormatTermUptoSaid : Prop := fnExactFormatTermUptoRow.holds Try.pinned (OpenSpec.upto fnExactFormatTermSpec)

/-- 'laws.FnExactIsImplicant', WHERE WHAT IT READS IS OF BULK AT MOST 1048576: true; the input reads as it did. -/
def fnExactIsImplicantUptoRow : OpenClaim := { program := "ytgkmgiojbiikgaa", sum := "8a6fb6ae35ab043791358577e0bb3c7c48063bdeaed4557c8f4282988459b7cd", func := "loop.example/g03403/laws.FnExactIsImplicant", spec := "fnExactIsImplicant", plainKeys := false, apart := false, narrowed := true }
def FnExactIsImplicantUptoSaid : Prop := fnExactIsImplicantUptoRow.holds Try.pinned (OpenSpec.upto fnExactIsImplicantSpec)

/-- 'laws.FnExactIsPrimeTerm', WHERE WHAT IT READS IS OF BULK AT MOST 1048576: true; the input reads as it did. -/
def fnExactIsPrimeTermUptoRow : OpenClaim := { program := "ytgkmgiojbiikgaa", sum := "8a6fb6ae35ab043791358577e0bb3c7c48063bdeaed4557c8f4282988459b7cd", func := "loop.example/g03403/laws.FnExactIsPrimeTerm", spec := "fnExactIsPrimeTerm", plainKeys := false, apart := false, narrowed := true }
def FnExactIsPrimeTermUptoSaid : Prop := fnExactIsPrimeTermUptoRow.holds Try.pinned (OpenSpec.upto fnExactIsPrimeTermSpec)

/-- 'laws.FnExactParseTerm', WHERE WHAT IT READS IS OF BULK AT MOST 1048576: true; the input reads as it did. -/
def fnExactParseTermUptoRow : OpenClaim := { program := "ytgkmgiojbiikgaa", sum := "8a6fb6ae35ab043791358577e0bb3c7c48063bdeaed4557c8f4282988459b7cd", func := "loop.example/g03403/laws.FnExactParseTerm", spec := "fnExactParseTerm", plainKeys := false, apart := false, narrowed := true }
def FnExactParseTermUptoSaid : Prop := fnExactParseTermUptoRow.holds Try.pinned (OpenSpec.upto fnExactParseTermSpec)

/-- 'laws.FnExactTableOfTerms', WHERE WHAT IT READS IS OF BULK AT MOST 1048576: true; the input reads as it did. -/
def fnExactTableOfTermsUptoRow : OpenClaim := { program := "ytgkmgiojbiikgaa", sum := "8a6fb6ae35ab043791358577e0bb3c7c48063bdeaed4557c8f4282988459b7cd", func := "loop.example/g03403/laws.FnExactTableOfTerms", spec := "fnExactTableOfTerms", unfollowed := true, recurses := true, plainKeys := false, apart := false, narrowed := true }
def FnExactTableOfTermsUptoSaid : Prop := fnExactTableOfTermsUptoRow.holds Try.pinned (OpenSpec.upto fnExactTableOfTermsSpec)

/-- 'laws.FnExactPrimesOf', WHERE WHAT IT READS IS OF BULK AT MOST 1048576: true; the input reads as it did. -/
def fnExactPrimesOfUptoRow : OpenClaim := { program := "ytgkmgiojbiikgaa", sum := "8a6fb6ae35ab043791358577e0bb3c7c48063bdeaed4557c8f4282988459b7cd", func := "loop.example/g03403/laws.FnExactPrimesOf", spec := "fnExactPrimesOf", plainKeys := false, apart := false, narrowed := true }
def FnExactPrimesOfUptoSaid : Prop := fnExactPrimesOfUptoRow.holds Try.pinned (OpenSpec.upto fnExactPrimesOfSpec)

/-- 'laws.FnExactEssentialPrimes', WHERE WHAT IT READS IS OF BULK AT MOST 1048576: true; the input reads as it did. -/
def fnExactEssentialPrimesUptoRow : OpenClaim := { program := "ytgkmgiojbiikgaa", sum := "8a6fb6ae35ab043791358577e0bb3c7c48063bdeaed4557c8f4282988459b7cd", func := "loop.example/g03403/laws.FnExactEssentialPrimes", spec := "fnExactEssentialPrimes", unfollowed := true, recurses := true, plainKeys := false, apart := false, narrowed := true }
def FnExactEssentialPrimesUptoSaid : Prop := fnExactEssentialPrimesUptoRow.holds Try.pinned (OpenSpec.upto fnExactEssentialPrimesSpec)

/-- 'laws.FnExactMinimalSum', WHERE WHAT IT READS IS OF BULK AT MOST 1048576: true; the input reads as it did. -/
def fnExactMinimalSumUptoRow : OpenClaim := { program := "ytgkmgiojbiikgaa", sum := "8a6fb6ae35ab043791358577e0bb3c7c48063bdeaed4557c8f4282988459b7cd", func := "loop.example/g03403/laws.FnExactMinimalSum", spec := "fnExactMinimalSum", unfollowed := true, recurses := true, plainKeys := false, apart := false, narrowed := true }
def FnExactMinimalSumUptoSaid : Prop := fnExactMinimalSumUptoRow.holds Try.pinned (OpenSpec.upto fnExactMinimalSumSpec)

/-- 'laws.FnPrimes', WHERE WHAT IT READS IS OF BULK AT MOST 1048576: true; the input reads as it did. -/
def fnPrimesUptoRow : OpenClaim := { program := "ytgkmgiojbiikgaa", sum := "8a6fb6ae35ab043791358577e0bb3c7c48063bdeaed4557c8f4282988459b7cd", func := "loop.example/g03403/laws.FnPrimes", spec := "fnPrimes", unfollowed := true, recurses := true, plainKeys := false, apart := false, narrowed := true }
def FnPrimesUptoSaid : Prop := fnPrimesUptoRow.holds Try.pinned (OpenSpec.upto fnPrimesSpec)

/-- 'laws.FnExactIsTree', WHERE WHAT IT READS IS OF BULK AT MOST 1048576: true; the input reads as it did. -/
def fnExactIsTreeUptoRow : OpenClaim := { program := "ytgkmgiojbiikgaa", sum := "8a6fb6ae35ab043791358577e0bb3c7c48063bdeaed4557c8f4282988459b7cd", func := "loop.example/g03403/laws.FnExactIsTree", spec := "fnExactIsTree", recurses := true, plainKeys := false, apart := false, narrowed := true }
def FnExactIsTreeUptoSaid : Prop := fnExactIsTreeUptoRow.holds Try.pinned (OpenSpec.upto fnExactIsTreeSpec)

/-- 'laws.FnExactLeastDepth', WHERE WHAT IT READS IS OF BULK AT MOST 1048576: true; the input reads as it did. -/
def fnExactLeastDepthUptoRow : OpenClaim := { program := "ytgkmgiojbiikgaa", sum := "8a6fb6ae35ab043791358577e0bb3c7c48063bdeaed4557c8f4282988459b7cd", func := "loop.example/g03403/laws.FnExactLeastDepth", spec := "fnExactLeastDepth", recurses := true, plainKeys := false, apart := false, narrowed := true }
def FnExactLeastDepthUptoSaid : Prop := fnExactLeastDepthUptoRow.holds Try.pinned (OpenSpec.upto fnExactLeastDepthSpec)

end Rows
end Go.Proofs.Ytgkmgiojbiikgaa
