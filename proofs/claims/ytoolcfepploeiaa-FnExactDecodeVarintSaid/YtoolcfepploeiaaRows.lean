/-
  No cell of these rows narrows 'for every input' (looked for: loops, veiled, ifaces, maps, wideKeys, modest, calm, conditions, laid).
  DERIVED. THE GIVEN ROWS OF THIS SEAT. 17 by the template 'for every input the law returns true; each argument reads behind the call as it read before'; 0 by the template 'total and deterministic' (their statements: YtoolcfepploeiaaTotals.lean).
  GIVEN WITH THE SEED: the statements are not yours to turn. If you find one false, say at which input.
  Laid BY PROGRAM, IN A SANDBOX (cutbox-rows.mjs): the forced cells as the released guide's own fill.sh prints them over the translation 9fe57ede48300108… (all of the seat's roots in one cut). By AI agents, Wed Nov 11 2026. No macro, syntax, notation, axiom, sorry.
-/
import Derived.Test.YtoolcfepploeiaaChecked
import GoSem.Claim
import GoSem.ClaimJoined
import GoSem.ClaimMapViews
import Derived.JoinedTies
import Derived.KernelRfl
namespace Go.Proofs.Ytoolcfepploeiaa
/- THE CELL 'sum', in the pinned program and in every row, IS THE sha256 OF THE DUMP (.gsa) THAT YtoolcfepploeiaaProg.lean LOADS. Nothing in Lean hashes anything: it is a label: what it is worth is what the hold of that sum in a sandbox is worth. -/
noncomputable def Try.pinned : Pinned := { name := "ytoolcfepploeiaa", sum := "9fe57ede48300108af6ef3200e86906bf7466f2b74496c439f3cc325e9d63d42", checked := Try.checked }
namespace Rows
def none {H : Type} : Left H := { results := [], args := [] }

/-- 'laws.FnExactConstants': WHATEVER THE INPUT: true; the input reads as it did. -/
def fnExactConstantsSpec : ChangeSpec := { name := "fnExactConstants", fn := fun _ => fun
  | [] => { results := [.lit (.bool true)], args := [] }
  | _ => none }
def fnExactConstantsRow : OpenClaim := { program := "ytoolcfepploeiaa", sum := "9fe57ede48300108af6ef3200e86906bf7466f2b74496c439f3cc325e9d63d42", func := "loop.example/g03403/laws.FnExactConstants", spec := "fnExactConstants", apart := false }
def FnExactConstantsSaid : Prop := fnExactConstantsRow.holds Try.pinned (OpenSpec.ofChange fnExactConstantsSpec)

/-- ITS FALSE NEIGHBOUR: 'it returns false'. Refute it at one input. -/
def fnExactConstantsWrong : ChangeSpec := { name := "fnExactConstants", fn := fun _ => fun
  | [] => { results := [.lit (.bool false)], args := [] }
  | _ => none }
def FnExactConstantsWrongFalsely : Prop := fnExactConstantsRow.holds Try.pinned (OpenSpec.ofChange fnExactConstantsWrong)

/-- 'laws.FnExactIsTable': WHATEVER THE INPUT: true; the input reads as it did. -/
def fnExactIsTableSpec : ChangeSpec := { name := "fnExactIsTable", fn := fun _ => fun
  | [d] => { results := [.lit (.bool true)], args := [d] }
  | _ => none }
def fnExactIsTableRow : OpenClaim := { program := "ytoolcfepploeiaa", sum := "9fe57ede48300108af6ef3200e86906bf7466f2b74496c439f3cc325e9d63d42", func := "loop.example/g03403/laws.FnExactIsTable", spec := "fnExactIsTable", apart := false }
def FnExactIsTableSaid : Prop := fnExactIsTableRow.holds Try.pinned (OpenSpec.ofChange fnExactIsTableSpec)

/-- ITS FALSE NEIGHBOUR: 'it returns false'. Refute it at one input. -/
def fnExactIsTableWrong : ChangeSpec := { name := "fnExactIsTable", fn := fun _ => fun
  | [d] => { results := [.lit (.bool false)], args := [d] }
  | _ => none }
def FnExactIsTableWrongFalsely : Prop := fnExactIsTableRow.holds Try.pinned (OpenSpec.ofChange fnExactIsTableWrong)

/-- 'laws.FnExactIsTerm': WHATEVER THE INPUT: true; the input reads as it did. -/
def fnExactIsTermSpec : ChangeSpec := { name := "fnExactIsTerm", fn := fun _ => fun
  | [d1, d2] => { results := [.lit (.bool true)], args := [d1, d2] }
  | _ => none }
def fnExactIsTermRow : OpenClaim := { program := "ytoolcfepploeiaa", sum := "9fe57ede48300108af6ef3200e86906bf7466f2b74496c439f3cc325e9d63d42", func := "loop.example/g03403/laws.FnExactIsTerm", spec := "fnExactIsTerm", apart := false }
def FnExactIsTermSaid : Prop := fnExactIsTermRow.holds Try.pinned (OpenSpec.ofChange fnExactIsTermSpec)

/-- ITS FALSE NEIGHBOUR: 'it returns false'. Refute it at one input. -/
def fnExactIsTermWrong : ChangeSpec := { name := "fnExactIsTerm", fn := fun _ => fun
  | [d1, d2] => { results := [.lit (.bool false)], args := [d1, d2] }
  | _ => none }
def FnExactIsTermWrongFalsely : Prop := fnExactIsTermRow.holds Try.pinned (OpenSpec.ofChange fnExactIsTermWrong)

/-- 'laws.FnExactTermHolds': WHATEVER THE INPUT: true; the input reads as it did. -/
def fnExactTermHoldsSpec : ChangeSpec := { name := "fnExactTermHolds", fn := fun _ => fun
  | [d1, d2] => { results := [.lit (.bool true)], args := [d1, d2] }
  | _ => none }
def fnExactTermHoldsRow : OpenClaim := { program := "ytoolcfepploeiaa", sum := "9fe57ede48300108af6ef3200e86906bf7466f2b74496c439f3cc325e9d63d42", func := "loop.example/g03403/laws.FnExactTermHolds", spec := "fnExactTermHolds", apart := false }
def FnExactTermHoldsSaid : Prop := fnExactTermHoldsRow.holds Try.pinned (OpenSpec.ofChange fnExactTermHoldsSpec)

/-- ITS FALSE NEIGHBOUR: 'it returns false'. Refute it at one input. -/
def fnExactTermHoldsWrong : ChangeSpec := { name := "fnExactTermHolds", fn := fun _ => fun
  | [d1, d2] => { results := [.lit (.bool false)], args := [d1, d2] }
  | _ => none }
def FnExactTermHoldsWrongFalsely : Prop := fnExactTermHoldsRow.holds Try.pinned (OpenSpec.ofChange fnExactTermHoldsWrong)

/-- 'laws.FnExactDecodeFixed': WHATEVER THE INPUT: true; the input reads as it did. -/
def fnExactDecodeFixedSpec : ChangeSpec := { name := "fnExactDecodeFixed", fn := fun _ => fun
  | [d1, d2] => { results := [.lit (.bool true)], args := [d1, d2] }
  | _ => none }
def fnExactDecodeFixedRow : OpenClaim := { program := "ytoolcfepploeiaa", sum := "9fe57ede48300108af6ef3200e86906bf7466f2b74496c439f3cc325e9d63d42", func := "loop.example/g03403/laws.FnExactDecodeFixed", spec := "fnExactDecodeFixed", apart := false }
def FnExactDecodeFixedSaid : Prop := fnExactDecodeFixedRow.holds Try.pinned (OpenSpec.ofChange fnExactDecodeFixedSpec)

/-- ITS FALSE NEIGHBOUR: 'it returns false'. Refute it at one input. -/
def fnExactDecodeFixedWrong : ChangeSpec := { name := "fnExactDecodeFixed", fn := fun _ => fun
  | [d1, d2] => { results := [.lit (.bool false)], args := [d1, d2] }
  | _ => none }
def FnExactDecodeFixedWrongFalsely : Prop := fnExactDecodeFixedRow.holds Try.pinned (OpenSpec.ofChange fnExactDecodeFixedWrong)

/-- 'laws.FnExactEncodeHex': WHATEVER THE INPUT: true; the input reads as it did. -/
def fnExactEncodeHexSpec : ChangeSpec := { name := "fnExactEncodeHex", fn := fun _ => fun
  | [d] => { results := [.lit (.bool true)], args := [d] }
  | _ => none }
def fnExactEncodeHexRow : OpenClaim := { program := "ytoolcfepploeiaa", sum := "9fe57ede48300108af6ef3200e86906bf7466f2b74496c439f3cc325e9d63d42", func := "loop.example/g03403/laws.FnExactEncodeHex", spec := "fnExactEncodeHex", apart := false }
def FnExactEncodeHexSaid : Prop := fnExactEncodeHexRow.holds Try.pinned (OpenSpec.ofChange fnExactEncodeHexSpec)

/-- ITS FALSE NEIGHBOUR: 'it returns false'. Refute it at one input. -/
def fnExactEncodeHexWrong : ChangeSpec := { name := "fnExactEncodeHex", fn := fun _ => fun
  | [d] => { results := [.lit (.bool false)], args := [d] }
  | _ => none }
def FnExactEncodeHexWrongFalsely : Prop := fnExactEncodeHexRow.holds Try.pinned (OpenSpec.ofChange fnExactEncodeHexWrong)

/-- 'laws.FnExactEncodeVarint': WHATEVER THE INPUT: true; the input reads as it did. -/
def fnExactEncodeVarintSpec : ChangeSpec := { name := "fnExactEncodeVarint", fn := fun _ => fun
  | [d] => { results := [.lit (.bool true)], args := [d] }
  | _ => none }
def fnExactEncodeVarintRow : OpenClaim := { program := "ytoolcfepploeiaa", sum := "9fe57ede48300108af6ef3200e86906bf7466f2b74496c439f3cc325e9d63d42", func := "loop.example/g03403/laws.FnExactEncodeVarint", spec := "fnExactEncodeVarint", apart := false }
def FnExactEncodeVarintSaid : Prop := fnExactEncodeVarintRow.holds Try.pinned (OpenSpec.ofChange fnExactEncodeVarintSpec)

/-- ITS FALSE NEIGHBOUR: 'it returns false'. Refute it at one input. -/
def fnExactEncodeVarintWrong : ChangeSpec := { name := "fnExactEncodeVarint", fn := fun _ => fun
  | [d] => { results := [.lit (.bool false)], args := [d] }
  | _ => none }
def FnExactEncodeVarintWrongFalsely : Prop := fnExactEncodeVarintRow.holds Try.pinned (OpenSpec.ofChange fnExactEncodeVarintWrong)

/-- 'laws.FnExactIsConstant': WHATEVER THE INPUT: true; the input reads as it did. -/
def fnExactIsConstantSpec : ChangeSpec := { name := "fnExactIsConstant", fn := fun _ => fun
  | [d] => { results := [.lit (.bool true)], args := [d] }
  | _ => none }
def fnExactIsConstantRow : OpenClaim := { program := "ytoolcfepploeiaa", sum := "9fe57ede48300108af6ef3200e86906bf7466f2b74496c439f3cc325e9d63d42", func := "loop.example/g03403/laws.FnExactIsConstant", spec := "fnExactIsConstant", apart := false }
def FnExactIsConstantSaid : Prop := fnExactIsConstantRow.holds Try.pinned (OpenSpec.ofChange fnExactIsConstantSpec)

/-- ITS FALSE NEIGHBOUR: 'it returns false'. Refute it at one input. -/
def fnExactIsConstantWrong : ChangeSpec := { name := "fnExactIsConstant", fn := fun _ => fun
  | [d] => { results := [.lit (.bool false)], args := [d] }
  | _ => none }
def FnExactIsConstantWrongFalsely : Prop := fnExactIsConstantRow.holds Try.pinned (OpenSpec.ofChange fnExactIsConstantWrong)

/-- 'laws.FnExactEncodeFixed': WHATEVER THE INPUT: true; the input reads as it did. -/
def fnExactEncodeFixedSpec : ChangeSpec := { name := "fnExactEncodeFixed", fn := fun _ => fun
  | [d1, d2] => { results := [.lit (.bool true)], args := [d1, d2] }
  | _ => none }
def fnExactEncodeFixedRow : OpenClaim := { program := "ytoolcfepploeiaa", sum := "9fe57ede48300108af6ef3200e86906bf7466f2b74496c439f3cc325e9d63d42", func := "loop.example/g03403/laws.FnExactEncodeFixed", spec := "fnExactEncodeFixed", apart := false }
def FnExactEncodeFixedSaid : Prop := fnExactEncodeFixedRow.holds Try.pinned (OpenSpec.ofChange fnExactEncodeFixedSpec)

/-- ITS FALSE NEIGHBOUR: 'it returns false'. Refute it at one input. -/
def fnExactEncodeFixedWrong : ChangeSpec := { name := "fnExactEncodeFixed", fn := fun _ => fun
  | [d1, d2] => { results := [.lit (.bool false)], args := [d1, d2] }
  | _ => none }
def FnExactEncodeFixedWrongFalsely : Prop := fnExactEncodeFixedRow.holds Try.pinned (OpenSpec.ofChange fnExactEncodeFixedWrong)

/-- 'laws.FnExactValueAt': WHATEVER THE INPUT: true; the input reads as it did. -/
def fnExactValueAtSpec : ChangeSpec := { name := "fnExactValueAt", fn := fun _ => fun
  | [d1, d2] => { results := [.lit (.bool true)], args := [d1, d2] }
  | _ => none }
def fnExactValueAtRow : OpenClaim := { program := "ytoolcfepploeiaa", sum := "9fe57ede48300108af6ef3200e86906bf7466f2b74496c439f3cc325e9d63d42", func := "loop.example/g03403/laws.FnExactValueAt", spec := "fnExactValueAt", apart := false }
def FnExactValueAtSaid : Prop := fnExactValueAtRow.holds Try.pinned (OpenSpec.ofChange fnExactValueAtSpec)

/-- ITS FALSE NEIGHBOUR: 'it returns false'. Refute it at one input. -/
def fnExactValueAtWrong : ChangeSpec := { name := "fnExactValueAt", fn := fun _ => fun
  | [d1, d2] => { results := [.lit (.bool false)], args := [d1, d2] }
  | _ => none }
def FnExactValueAtWrongFalsely : Prop := fnExactValueAtRow.holds Try.pinned (OpenSpec.ofChange fnExactValueAtWrong)

/-- 'laws.FnExactDecodeVarint': WHATEVER THE INPUT: true; the input reads as it did. -/
def fnExactDecodeVarintSpec : ChangeSpec := { name := "fnExactDecodeVarint", fn := fun _ => fun
  | [d] => { results := [.lit (.bool true)], args := [d] }
  | _ => none }
def fnExactDecodeVarintRow : OpenClaim := { program := "ytoolcfepploeiaa", sum := "9fe57ede48300108af6ef3200e86906bf7466f2b74496c439f3cc325e9d63d42", func := "loop.example/g03403/laws.FnExactDecodeVarint", spec := "fnExactDecodeVarint", apart := false }
def FnExactDecodeVarintSaid : Prop := fnExactDecodeVarintRow.holds Try.pinned (OpenSpec.ofChange fnExactDecodeVarintSpec)

/-- ITS FALSE NEIGHBOUR: 'it returns false'. Refute it at one input. -/
def fnExactDecodeVarintWrong : ChangeSpec := { name := "fnExactDecodeVarint", fn := fun _ => fun
  | [d] => { results := [.lit (.bool false)], args := [d] }
  | _ => none }
def FnExactDecodeVarintWrongFalsely : Prop := fnExactDecodeVarintRow.holds Try.pinned (OpenSpec.ofChange fnExactDecodeVarintWrong)

/-- 'laws.FnExactFormatTable': WHATEVER THE INPUT: true; the input reads as it did. -/
def fnExactFormatTableSpec : ChangeSpec := { name := "fnExactFormatTable", fn := fun _ => fun
  | [d] => { results := [.lit (.bool true)], args := [d] }
  | _ => none }
def fnExactFormatTableRow : OpenClaim := { program := "ytoolcfepploeiaa", sum := "9fe57ede48300108af6ef3200e86906bf7466f2b74496c439f3cc325e9d63d42", func := "loop.example/g03403/laws.FnExactFormatTable", spec := "fnExactFormatTable", apart := false }
def FnExactFormatTableSaid : Prop := fnExactFormatTableRow.holds Try.pinned (OpenSpec.ofChange fnExactFormatTableSpec)

/-- ITS FALSE NEIGHBOUR: 'it returns false'. Refute it at one input. -/
def fnExactFormatTableWrong : ChangeSpec := { name := "fnExactFormatTable", fn := fun _ => fun
  | [d] => { results := [.lit (.bool false)], args := [d] }
  | _ => none }
def FnExactFormatTableWrongFalsely : Prop := fnExactFormatTableRow.holds Try.pinned (OpenSpec.ofChange fnExactFormatTableWrong)

/-- 'laws.FnExactAndTables': WHATEVER THE INPUT: true; the input reads as it did. -/
def fnExactAndTablesSpec : ChangeSpec := { name := "fnExactAndTables", fn := fun _ => fun
  | [d1, d2] => { results := [.lit (.bool true)], args := [d1, d2] }
  | _ => none }
def fnExactAndTablesRow : OpenClaim := { program := "ytoolcfepploeiaa", sum := "9fe57ede48300108af6ef3200e86906bf7466f2b74496c439f3cc325e9d63d42", func := "loop.example/g03403/laws.FnExactAndTables", spec := "fnExactAndTables", apart := false }
def FnExactAndTablesSaid : Prop := fnExactAndTablesRow.holds Try.pinned (OpenSpec.ofChange fnExactAndTablesSpec)

/-- ITS FALSE NEIGHBOUR: 'it returns false'. Refute it at one input. -/
def fnExactAndTablesWrong : ChangeSpec := { name := "fnExactAndTables", fn := fun _ => fun
  | [d1, d2] => { results := [.lit (.bool false)], args := [d1, d2] }
  | _ => none }
def FnExactAndTablesWrongFalsely : Prop := fnExactAndTablesRow.holds Try.pinned (OpenSpec.ofChange fnExactAndTablesWrong)

/-- 'laws.FnExactNotTable': WHATEVER THE INPUT: true; the input reads as it did. -/
def fnExactNotTableSpec : ChangeSpec := { name := "fnExactNotTable", fn := fun _ => fun
  | [d] => { results := [.lit (.bool true)], args := [d] }
  | _ => none }
def fnExactNotTableRow : OpenClaim := { program := "ytoolcfepploeiaa", sum := "9fe57ede48300108af6ef3200e86906bf7466f2b74496c439f3cc325e9d63d42", func := "loop.example/g03403/laws.FnExactNotTable", spec := "fnExactNotTable", apart := false }
def FnExactNotTableSaid : Prop := fnExactNotTableRow.holds Try.pinned (OpenSpec.ofChange fnExactNotTableSpec)

/-- ITS FALSE NEIGHBOUR: 'it returns false'. Refute it at one input. -/
def fnExactNotTableWrong : ChangeSpec := { name := "fnExactNotTable", fn := fun _ => fun
  | [d] => { results := [.lit (.bool false)], args := [d] }
  | _ => none }
def FnExactNotTableWrongFalsely : Prop := fnExactNotTableRow.holds Try.pinned (OpenSpec.ofChange fnExactNotTableWrong)

/-- 'laws.FnExactOrTables': WHATEVER THE INPUT: true; the input reads as it did. -/
def fnExactOrTablesSpec : ChangeSpec := { name := "fnExactOrTables", fn := fun _ => fun
  | [d1, d2] => { results := [.lit (.bool true)], args := [d1, d2] }
  | _ => none }
def fnExactOrTablesRow : OpenClaim := { program := "ytoolcfepploeiaa", sum := "9fe57ede48300108af6ef3200e86906bf7466f2b74496c439f3cc325e9d63d42", func := "loop.example/g03403/laws.FnExactOrTables", spec := "fnExactOrTables", apart := false }
def FnExactOrTablesSaid : Prop := fnExactOrTablesRow.holds Try.pinned (OpenSpec.ofChange fnExactOrTablesSpec)

/-- ITS FALSE NEIGHBOUR: 'it returns false'. Refute it at one input. -/
def fnExactOrTablesWrong : ChangeSpec := { name := "fnExactOrTables", fn := fun _ => fun
  | [d1, d2] => { results := [.lit (.bool false)], args := [d1, d2] }
  | _ => none }
def FnExactOrTablesWrongFalsely : Prop := fnExactOrTablesRow.holds Try.pinned (OpenSpec.ofChange fnExactOrTablesWrong)

/-- 'laws.FnExactXorTables': WHATEVER THE INPUT: true; the input reads as it did. -/
def fnExactXorTablesSpec : ChangeSpec := { name := "fnExactXorTables", fn := fun _ => fun
  | [d1, d2] => { results := [.lit (.bool true)], args := [d1, d2] }
  | _ => none }
def fnExactXorTablesRow : OpenClaim := { program := "ytoolcfepploeiaa", sum := "9fe57ede48300108af6ef3200e86906bf7466f2b74496c439f3cc325e9d63d42", func := "loop.example/g03403/laws.FnExactXorTables", spec := "fnExactXorTables", apart := false }
def FnExactXorTablesSaid : Prop := fnExactXorTablesRow.holds Try.pinned (OpenSpec.ofChange fnExactXorTablesSpec)

/-- ITS FALSE NEIGHBOUR: 'it returns false'. Refute it at one input. -/
def fnExactXorTablesWrong : ChangeSpec := { name := "fnExactXorTables", fn := fun _ => fun
  | [d1, d2] => { results := [.lit (.bool false)], args := [d1, d2] }
  | _ => none }
def FnExactXorTablesWrongFalsely : Prop := fnExactXorTablesRow.holds Try.pinned (OpenSpec.ofChange fnExactXorTablesWrong)

/-- 'laws.FnExactDecodeHex': WHATEVER THE INPUT: true; the input reads as it did. -/
def fnExactDecodeHexSpec : ChangeSpec := { name := "fnExactDecodeHex", fn := fun _ => fun
  | [d] => { results := [.lit (.bool true)], args := [d] }
  | _ => none }
def fnExactDecodeHexRow : OpenClaim := { program := "ytoolcfepploeiaa", sum := "9fe57ede48300108af6ef3200e86906bf7466f2b74496c439f3cc325e9d63d42", func := "loop.example/g03403/laws.FnExactDecodeHex", spec := "fnExactDecodeHex", apart := false }
def FnExactDecodeHexSaid : Prop := fnExactDecodeHexRow.holds Try.pinned (OpenSpec.ofChange fnExactDecodeHexSpec)

/-- ITS FALSE NEIGHBOUR: 'it returns false'. Refute it at one input. -/
def fnExactDecodeHexWrong : ChangeSpec := { name := "fnExactDecodeHex", fn := fun _ => fun
  | [d] => { results := [.lit (.bool false)], args := [d] }
  | _ => none }
def FnExactDecodeHexWrongFalsely : Prop := fnExactDecodeHexRow.holds Try.pinned (OpenSpec.ofChange fnExactDecodeHexWrong)

/- THE SECOND FORM. 'bulk': how many values and letters a reading holds, each counted each time it is reached (what is shared counts as often as it is met; a slice's spare places count too). A statement '..UptoSaid' is the law's where the arguments, and the package variables that the reading takes, are together of bulk at most 1048576: NARROWER than '..Said'. Prove '..Said' where nothing that the law and all that it calls make is longer than what came in: it says more and counts as full. Else prove '..UptoSaid'. A law counts once. -/
mutual
def uptoBulk {H : Type} : DataW H → Nat
  | .lit (.string bytes) => bytes.length + 1
  | .lit _ => 1
  | .nil => 1
  | .ptr d => uptoBulk d + 1
  | .slice elems spare => uptoBulkAll elems + uptoBulkAll spare + 1
  | .agg parts => uptoBulkAll parts + 1
  | .iface _ d => uptoBulk d + 1
  | .map entries => uptoBulkEntries entries + 1
  | .held _ => 1
def uptoBulkAll {H : Type} : List (DataW H) → Nat
  | [] => 0
  | d :: r => uptoBulk d + uptoBulkAll r
def uptoBulkEntries {H : Type} : List (Lit × DataW H) → Nat
  | [] => 0
  | x :: r => uptoBulkEntry x + uptoBulkEntries r
def uptoBulkEntry {H : Type} : Lit × DataW H → Nat
  | (.string bytes, d) => bytes.length + uptoBulk d + 1
  | (_, d) => uptoBulk d + 1
 end
def uptoSmall : (H : Type) → List (DataW H) → Bool := fun _ ds => decide (uptoBulkAll ds ≤ 1048576)
def OpenSpec.upto (s : _root_.Go.ChangeSpec) : _root_.Go.OpenSpec := { _root_.Go.OpenSpec.ofChange s with cond := some uptoSmall }

/-- 'laws.FnExactConstants', WHERE WHAT IT READS IS OF BULK AT MOST 1048576: true; the input reads as it did. -/
def fnExactConstantsUptoRow : OpenClaim := { program := "ytoolcfepploeiaa", sum := "9fe57ede48300108af6ef3200e86906bf7466f2b74496c439f3cc325e9d63d42", func := "loop.example/g03403/laws.FnExactConstants", spec := "fnExactConstants", apart := false, narrowed := true }
def FnExactConstantsUptoSaid : Prop := fnExactConstantsUptoRow.holds Try.pinned (OpenSpec.upto fnExactConstantsSpec)

/-- 'laws.FnExactIsTable', WHERE WHAT IT READS IS OF BULK AT MOST 1048576: true; the input reads as it did. -/
def fnExactIsTableUptoRow : OpenClaim := { program := "ytoolcfepploeiaa", sum := "9fe57ede48300108af6ef3200e86906bf7466f2b74496c439f3cc325e9d63d42", func := "loop.example/g03403/laws.FnExactIsTable", spec := "fnExactIsTable", apart := false, narrowed := true }
def FnExactIsTableUptoSaid : Prop := fnExactIsTableUptoRow.holds Try.pinned (OpenSpec.upto fnExactIsTableSpec)

/-- 'laws.FnExactIsTerm', WHERE WHAT IT READS IS OF BULK AT MOST 1048576: true; the input reads as it did. -/
def fnExactIsTermUptoRow : OpenClaim := { program := "ytoolcfepploeiaa", sum := "9fe57ede48300108af6ef3200e86906bf7466f2b74496c439f3cc325e9d63d42", func := "loop.example/g03403/laws.FnExactIsTerm", spec := "fnExactIsTerm", apart := false, narrowed := true }
def FnExactIsTermUptoSaid : Prop := fnExactIsTermUptoRow.holds Try.pinned (OpenSpec.upto fnExactIsTermSpec)

/-- 'laws.FnExactTermHolds', WHERE WHAT IT READS IS OF BULK AT MOST 1048576: true; the input reads as it did. -/
def fnExactTermHoldsUptoRow : OpenClaim := { program := "ytoolcfepploeiaa", sum := "9fe57ede48300108af6ef3200e86906bf7466f2b74496c439f3cc325e9d63d42", func := "loop.example/g03403/laws.FnExactTermHolds", spec := "fnExactTermHolds", apart := false, narrowed := true }
def FnExactTermHoldsUptoSaid : Prop := fnExactTermHoldsUptoRow.holds Try.pinned (OpenSpec.upto fnExactTermHoldsSpec)

/-- 'laws.FnExactDecodeFixed', WHERE WHAT IT READS IS OF BULK AT MOST 1048576: true; the input reads as it did. -/
def fnExactDecodeFixedUptoRow : OpenClaim := { program := "ytoolcfepploeiaa", sum := "9fe57ede48300108af6ef3200e86906bf7466f2b74496c439f3cc325e9d63d42", func := "loop.example/g03403/laws.FnExactDecodeFixed", spec := "fnExactDecodeFixed", apart := false, narrowed := true }
def FnExactDecodeFixedUptoSaid : Prop := fnExactDecodeFixedUptoRow.holds Try.pinned (OpenSpec.upto fnExactDecodeFixedSpec)

/-- 'laws.FnExactEncodeHex', WHERE WHAT IT READS IS OF BULK AT MOST 1048576: true; the input reads as it did. -/
def fnExactEncodeHexUptoRow : OpenClaim := { program := "ytoolcfepploeiaa", sum := "9fe57ede48300108af6ef3200e86906bf7466f2b74496c439f3cc325e9d63d42", func := "loop.example/g03403/laws.FnExactEncodeHex", spec := "fnExactEncodeHex", apart := false, narrowed := true }
def FnExactEncodeHexUptoSaid : Prop := fnExactEncodeHexUptoRow.holds Try.pinned (OpenSpec.upto fnExactEncodeHexSpec)

/-- 'laws.FnExactEncodeVarint', WHERE WHAT IT READS IS OF BULK AT MOST 1048576: true; the input reads as it did. -/
def fnExactEncodeVarintUptoRow : OpenClaim := { program := "ytoolcfepploeiaa", sum := "9fe57ede48300108af6ef3200e86906bf7466f2b74496c439f3cc325e9d63d42", func := "loop.example/g03403/laws.FnExactEncodeVarint", spec := "fnExactEncodeVarint", apart := false, narrowed := true }
def FnExactEncodeVarintUptoSaid : Prop := fnExactEncodeVarintUptoRow.holds Try.pinned (OpenSpec.upto fnExactEncodeVarintSpec)

/-- 'laws.FnExactIsConstant', WHERE WHAT IT READS IS OF BULK AT MOST 1048576: true; the input reads as it did. -/
def fnExactIsConstantUptoRow : OpenClaim := { program := "ytoolcfepploeiaa", sum := "9fe57ede48300108af6ef3200e86906bf7466f2b74496c439f3cc325e9d63d42", func := "loop.example/g03403/laws.FnExactIsConstant", spec := "fnExactIsConstant", apart := false, narrowed := true }
def FnExactIsConstantUptoSaid : Prop := fnExactIsConstantUptoRow.holds Try.pinned (OpenSpec.upto fnExactIsConstantSpec)

/-- 'laws.FnExactEncodeFixed', WHERE WHAT IT READS IS OF BULK AT MOST 1048576: true; the input reads as it did. -/
def fnExactEncodeFixedUptoRow : OpenClaim := { program := "ytoolcfepploeiaa", sum := "9fe57ede48300108af6ef3200e86906bf7466f2b74496c439f3cc325e9d63d42", func := "loop.example/g03403/laws.FnExactEncodeFixed", spec := "fnExactEncodeFixed", apart := false, narrowed := true }
def FnExactEncodeFixedUptoSaid : Prop := fnExactEncodeFixedUptoRow.holds Try.pinned (OpenSpec.upto fnExactEncodeFixedSpec)

/-- 'laws.FnExactValueAt', WHERE WHAT IT READS IS OF BULK AT MOST 1048576: true; the input reads as it did. -/
def fnExactValueAtUptoRow : OpenClaim := { program := "ytoolcfepploeiaa", sum := "9fe57ede48300108af6ef3200e86906bf7466f2b74496c439f3cc325e9d63d42", func := "loop.example/g03403/laws.FnExactValueAt", spec := "fnExactValueAt", apart := false, narrowed := true }
def FnExactValueAtUptoSaid : Prop := fnExactValueAtUptoRow.holds Try.pinned (OpenSpec.upto fnExactValueAtSpec)

/-- 'laws.FnExactDecodeVarint', WHERE WHAT IT READS IS OF BULK AT MOST 1048576: true; the input reads as it did. -/
def fnExactDecodeVarintUptoRow : OpenClaim := { program := "ytoolcfepploeiaa", sum := "9fe57ede48300108af6ef3200e86906bf7466f2b74496c439f3cc325e9d63d42", func := "loop.example/g03403/laws.FnExactDecodeVarint", spec := "fnExactDecodeVarint", apart := false, narrowed := true }
def FnExactDecodeVarintUptoSaid : Prop := fnExactDecodeVarintUptoRow.holds Try.pinned (OpenSpec.upto fnExactDecodeVarintSpec)

/-- 'laws.FnExactFormatTable', WHERE WHAT IT READS IS OF BULK AT MOST 1048576: true; the input reads as it did. -/
def fnExactFormatTableUptoRow : OpenClaim := { program := "ytoolcfepploeiaa", sum := "9fe57ede48300108af6ef3200e86906bf7466f2b74496c439f3cc325e9d63d42", func := "loop.example/g03403/laws.FnExactFormatTable", spec := "fnExactFormatTable", apart := false, narrowed := true }
def FnExactFormatTableUptoSaid : Prop := fnExactFormatTableUptoRow.holds Try.pinned (OpenSpec.upto fnExactFormatTableSpec)

/-- 'laws.FnExactAndTables', WHERE WHAT IT READS IS OF BULK AT MOST 1048576: true; the input reads as it did. -/
def fnExactAndTablesUptoRow : OpenClaim := { program := "ytoolcfepploeiaa", sum := "9fe57ede48300108af6ef3200e86906bf7466f2b74496c439f3cc325e9d63d42", func := "loop.example/g03403/laws.FnExactAndTables", spec := "fnExactAndTables", apart := false, narrowed := true }
def FnExactAndTablesUptoSaid : Prop := fnExactAndTablesUptoRow.holds Try.pinned (OpenSpec.upto fnExactAndTablesSpec)

/-- 'laws.FnExactNotTable', WHERE WHAT IT READS IS OF BULK AT MOST 1048576: true; the input reads as it did. -/
def fnExactNotTableUptoRow : OpenClaim := { program := "ytoolcfepploeiaa", sum := "9fe57ede48300108af6ef3200e86906bf7466f2b74496c439f3cc325e9d63d42", func := "loop.example/g03403/laws.FnExactNotTable", spec := "fnExactNotTable", apart := false, narrowed := true }
def FnExactNotTableUptoSaid : Prop := fnExactNotTableUptoRow.holds Try.pinned (OpenSpec.upto fnExactNotTableSpec)

/-- 'laws.FnExactOrTables', WHERE WHAT IT READS IS OF BULK AT MOST 1048576: true; the input reads as it did. -/
def fnExactOrTablesUptoRow : OpenClaim := { program := "ytoolcfepploeiaa", sum := "9fe57ede48300108af6ef3200e86906bf7466f2b74496c439f3cc325e9d63d42", func := "loop.example/g03403/laws.FnExactOrTables", spec := "fnExactOrTables", apart := false, narrowed := true }
def FnExactOrTablesUptoSaid : Prop := fnExactOrTablesUptoRow.holds Try.pinned (OpenSpec.upto fnExactOrTablesSpec)

/-- 'laws.FnExactXorTables', WHERE WHAT IT READS IS OF BULK AT MOST 1048576: true; the input reads as it did. -/
def fnExactXorTablesUptoRow : OpenClaim := { program := "ytoolcfepploeiaa", sum := "9fe57ede48300108af6ef3200e86906bf7466f2b74496c439f3cc325e9d63d42", func := "loop.example/g03403/laws.FnExactXorTables", spec := "fnExactXorTables", apart := false, narrowed := true }
def FnExactXorTablesUptoSaid : Prop := fnExactXorTablesUptoRow.holds Try.pinned (OpenSpec.upto fnExactXorTablesSpec)

/-- 'laws.FnExactDecodeHex', WHERE WHAT IT READS IS OF BULK AT MOST 1048576: true; the input reads as it did. -/
def fnExactDecodeHexUptoRow : OpenClaim := { program := "ytoolcfepploeiaa", sum := "9fe57ede48300108af6ef3200e86906bf7466f2b74496c439f3cc325e9d63d42", func := "loop.example/g03403/laws.FnExactDecodeHex", spec := "fnExactDecodeHex", apart := false, narrowed := true }
def FnExactDecodeHexUptoSaid : Prop := fnExactDecodeHexUptoRow.holds Try.pinned (OpenSpec.upto fnExactDecodeHexSpec)

end Rows
end Go.Proofs.Ytoolcfepploeiaa
