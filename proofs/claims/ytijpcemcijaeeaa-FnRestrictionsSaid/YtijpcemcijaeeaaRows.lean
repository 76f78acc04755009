/-
  No cell of these rows narrows 'for every input' (looked for: loops, veiled, ifaces, maps, wideKeys, modest, calm, conditions, laid).
  DERIVED. THE GIVEN ROWS OF THIS SEAT. 18 by the template 'for every input the law returns true; each argument reads behind the call as it read before'; 0 by the template 'total and deterministic' (their statements: YtijpcemcijaeeaaTotals.lean).
  GIVEN WITH THE SEED: the statements are not yours to turn. If you find one false, say at which input.
  Laid BY PROGRAM, IN A SANDBOX (cutbox-rows.mjs): the forced cells as the released guide's own fill.sh prints them over the translation 7d43017f8e717747… (all of the seat's roots in one cut). By AI agents, Wed Nov 11 2026. No macro, syntax, notation, axiom, sorry.
-/
import Derived.Test.YtijpcemcijaeeaaChecked
import GoSem.Claim
import GoSem.ClaimJoined
import GoSem.ClaimMapViews
import Derived.JoinedTies
import Derived.KernelRfl
namespace Go.Proofs.Ytijpcemcijaeeaa
/- THE CELL 'sum', in the pinned program and in every row, IS THE sha256 OF THE DUMP (.gsa) THAT YtijpcemcijaeeaaProg.lean LOADS. Nothing in Lean hashes anything: it is a label: what it is worth is what the hold of that sum in a sandbox is worth. -/
noncomputable def Try.pinned : Pinned := { name := "ytijpcemcijaeeaa", sum := "7d43017f8e71774718e8307cdfe5e0b5ec8b6f9c701d42db57594b044ff0a682", checked := Try.checked }
namespace Rows
def none {H : Type} : Left H := { results := [], args := [] }

/-- 'laws.FnExactVariableTable': WHATEVER THE INPUT: true; the input reads as it did. -/
def fnExactVariableTableSpec : ChangeSpec := { name := "fnExactVariableTable", fn := fun _ => fun
  | [d1, d2] => { results := [.lit (.bool true)], args := [d1, d2] }
  | _ => none }
def fnExactVariableTableRow : OpenClaim := { program := "ytijpcemcijaeeaa", sum := "7d43017f8e71774718e8307cdfe5e0b5ec8b6f9c701d42db57594b044ff0a682", func := "loop.example/g03403/laws.FnExactVariableTable", spec := "fnExactVariableTable", unfollowed := true, recurses := true, apart := false }
def FnExactVariableTableSaid : Prop := fnExactVariableTableRow.holds Try.pinned (OpenSpec.ofChange fnExactVariableTableSpec)

/-- ITS FALSE NEIGHBOUR: 'it returns false'. Refute it at one input. -/
def fnExactVariableTableWrong : ChangeSpec := { name := "fnExactVariableTable", fn := fun _ => fun
  | [d1, d2] => { results := [.lit (.bool false)], args := [d1, d2] }
  | _ => none }
def FnExactVariableTableWrongFalsely : Prop := fnExactVariableTableRow.holds Try.pinned (OpenSpec.ofChange fnExactVariableTableWrong)

/-- 'laws.FnExactCountOnes': WHATEVER THE INPUT: true; the input reads as it did. -/
def fnExactCountOnesSpec : ChangeSpec := { name := "fnExactCountOnes", fn := fun _ => fun
  | [d] => { results := [.lit (.bool true)], args := [d] }
  | _ => none }
def fnExactCountOnesRow : OpenClaim := { program := "ytijpcemcijaeeaa", sum := "7d43017f8e71774718e8307cdfe5e0b5ec8b6f9c701d42db57594b044ff0a682", func := "loop.example/g03403/laws.FnExactCountOnes", spec := "fnExactCountOnes", apart := false }
def FnExactCountOnesSaid : Prop := fnExactCountOnesRow.holds Try.pinned (OpenSpec.ofChange fnExactCountOnesSpec)

/-- ITS FALSE NEIGHBOUR: 'it returns false'. Refute it at one input. -/
def fnExactCountOnesWrong : ChangeSpec := { name := "fnExactCountOnes", fn := fun _ => fun
  | [d] => { results := [.lit (.bool false)], args := [d] }
  | _ => none }
def FnExactCountOnesWrongFalsely : Prop := fnExactCountOnesRow.holds Try.pinned (OpenSpec.ofChange fnExactCountOnesWrong)

/-- 'laws.FnExactParseTable': WHATEVER THE INPUT: true; the input reads as it did. -/
def fnExactParseTableSpec : ChangeSpec := { name := "fnExactParseTable", fn := fun _ => fun
  | [d] => { results := [.lit (.bool true)], args := [d] }
  | _ => none }
def fnExactParseTableRow : OpenClaim := { program := "ytijpcemcijaeeaa", sum := "7d43017f8e71774718e8307cdfe5e0b5ec8b6f9c701d42db57594b044ff0a682", func := "loop.example/g03403/laws.FnExactParseTable", spec := "fnExactParseTable", unfollowed := true, recurses := true, apart := false }
def FnExactParseTableSaid : Prop := fnExactParseTableRow.holds Try.pinned (OpenSpec.ofChange fnExactParseTableSpec)

/-- ITS FALSE NEIGHBOUR: 'it returns false'. Refute it at one input. -/
def fnExactParseTableWrong : ChangeSpec := { name := "fnExactParseTable", fn := fun _ => fun
  | [d] => { results := [.lit (.bool false)], args := [d] }
  | _ => none }
def FnExactParseTableWrongFalsely : Prop := fnExactParseTableRow.holds Try.pinned (OpenSpec.ofChange fnExactParseTableWrong)

/-- 'laws.FnExactDependsOn': WHATEVER THE INPUT: true; the input reads as it did. -/
def fnExactDependsOnSpec : ChangeSpec := { name := "fnExactDependsOn", fn := fun _ => fun
  | [d1, d2] => { results := [.lit (.bool true)], args := [d1, d2] }
  | _ => none }
def fnExactDependsOnRow : OpenClaim := { program := "ytijpcemcijaeeaa", sum := "7d43017f8e71774718e8307cdfe5e0b5ec8b6f9c701d42db57594b044ff0a682", func := "loop.example/g03403/laws.FnExactDependsOn", spec := "fnExactDependsOn", unfollowed := true, recurses := true, apart := false }
def FnExactDependsOnSaid : Prop := fnExactDependsOnRow.holds Try.pinned (OpenSpec.ofChange fnExactDependsOnSpec)

/-- ITS FALSE NEIGHBOUR: 'it returns false'. Refute it at one input. -/
def fnExactDependsOnWrong : ChangeSpec := { name := "fnExactDependsOn", fn := fun _ => fun
  | [d1, d2] => { results := [.lit (.bool false)], args := [d1, d2] }
  | _ => none }
def FnExactDependsOnWrongFalsely : Prop := fnExactDependsOnRow.holds Try.pinned (OpenSpec.ofChange fnExactDependsOnWrong)

/-- 'laws.FnExactJoinTables': WHATEVER THE INPUT: true; the input reads as it did. -/
def fnExactJoinTablesSpec : ChangeSpec := { name := "fnExactJoinTables", fn := fun _ => fun
  | [d1, d2, d3] => { results := [.lit (.bool true)], args := [d1, d2, d3] }
  | _ => none }
def fnExactJoinTablesRow : OpenClaim := { program := "ytijpcemcijaeeaa", sum := "7d43017f8e71774718e8307cdfe5e0b5ec8b6f9c701d42db57594b044ff0a682", func := "loop.example/g03403/laws.FnExactJoinTables", spec := "fnExactJoinTables", apart := false }
def FnExactJoinTablesSaid : Prop := fnExactJoinTablesRow.holds Try.pinned (OpenSpec.ofChange fnExactJoinTablesSpec)

/-- ITS FALSE NEIGHBOUR: 'it returns false'. Refute it at one input. -/
def fnExactJoinTablesWrong : ChangeSpec := { name := "fnExactJoinTables", fn := fun _ => fun
  | [d1, d2, d3] => { results := [.lit (.bool false)], args := [d1, d2, d3] }
  | _ => none }
def FnExactJoinTablesWrongFalsely : Prop := fnExactJoinTablesRow.holds Try.pinned (OpenSpec.ofChange fnExactJoinTablesWrong)

/-- 'laws.FnExactShiftTable': WHATEVER THE INPUT: true; the input reads as it did. -/
def fnExactShiftTableSpec : ChangeSpec := { name := "fnExactShiftTable", fn := fun _ => fun
  | [d1, d2] => { results := [.lit (.bool true)], args := [d1, d2] }
  | _ => none }
def fnExactShiftTableRow : OpenClaim := { program := "ytijpcemcijaeeaa", sum := "7d43017f8e71774718e8307cdfe5e0b5ec8b6f9c701d42db57594b044ff0a682", func := "loop.example/g03403/laws.FnExactShiftTable", spec := "fnExactShiftTable", unfollowed := true, recurses := true, apart := false }
def FnExactShiftTableSaid : Prop := fnExactShiftTableRow.holds Try.pinned (OpenSpec.ofChange fnExactShiftTableSpec)

/-- ITS FALSE NEIGHBOUR: 'it returns false'. Refute it at one input. -/
def fnExactShiftTableWrong : ChangeSpec := { name := "fnExactShiftTable", fn := fun _ => fun
  | [d1, d2] => { results := [.lit (.bool false)], args := [d1, d2] }
  | _ => none }
def FnExactShiftTableWrongFalsely : Prop := fnExactShiftTableRow.holds Try.pinned (OpenSpec.ofChange fnExactShiftTableWrong)

/-- 'laws.FnExactCubeValue': WHATEVER THE INPUT: true; the input reads as it did. -/
def fnExactCubeValueSpec : ChangeSpec := { name := "fnExactCubeValue", fn := fun _ => fun
  | [d1, d2, d3] => { results := [.lit (.bool true)], args := [d1, d2, d3] }
  | _ => none }
def fnExactCubeValueRow : OpenClaim := { program := "ytijpcemcijaeeaa", sum := "7d43017f8e71774718e8307cdfe5e0b5ec8b6f9c701d42db57594b044ff0a682", func := "loop.example/g03403/laws.FnExactCubeValue", spec := "fnExactCubeValue", apart := false }
def FnExactCubeValueSaid : Prop := fnExactCubeValueRow.holds Try.pinned (OpenSpec.ofChange fnExactCubeValueSpec)

/-- ITS FALSE NEIGHBOUR: 'it returns false'. Refute it at one input. -/
def fnExactCubeValueWrong : ChangeSpec := { name := "fnExactCubeValue", fn := fun _ => fun
  | [d1, d2, d3] => { results := [.lit (.bool false)], args := [d1, d2, d3] }
  | _ => none }
def FnExactCubeValueWrongFalsely : Prop := fnExactCubeValueRow.holds Try.pinned (OpenSpec.ofChange fnExactCubeValueWrong)

/-- 'laws.FnExactRestrictTable': WHATEVER THE INPUT: true; the input reads as it did. -/
def fnExactRestrictTableSpec : ChangeSpec := { name := "fnExactRestrictTable", fn := fun _ => fun
  | [d1, d2, d3] => { results := [.lit (.bool true)], args := [d1, d2, d3] }
  | _ => none }
def fnExactRestrictTableRow : OpenClaim := { program := "ytijpcemcijaeeaa", sum := "7d43017f8e71774718e8307cdfe5e0b5ec8b6f9c701d42db57594b044ff0a682", func := "loop.example/g03403/laws.FnExactRestrictTable", spec := "fnExactRestrictTable", unfollowed := true, recurses := true, apart := false }
def FnExactRestrictTableSaid : Prop := fnExactRestrictTableRow.holds Try.pinned (OpenSpec.ofChange fnExactRestrictTableSpec)

/-- ITS FALSE NEIGHBOUR: 'it returns false'. Refute it at one input. -/
def fnExactRestrictTableWrong : ChangeSpec := { name := "fnExactRestrictTable", fn := fun _ => fun
  | [d1, d2, d3] => { results := [.lit (.bool false)], args := [d1, d2, d3] }
  | _ => none }
def FnExactRestrictTableWrongFalsely : Prop := fnExactRestrictTableRow.holds Try.pinned (OpenSpec.ofChange fnExactRestrictTableWrong)

/-- 'laws.FnExactReduceTable': WHATEVER THE INPUT: true; the input reads as it did. -/
def fnExactReduceTableSpec : ChangeSpec := { name := "fnExactReduceTable", fn := fun _ => fun
  | [d] => { results := [.lit (.bool true)], args := [d] }
  | _ => none }
def fnExactReduceTableRow : OpenClaim := { program := "ytijpcemcijaeeaa", sum := "7d43017f8e71774718e8307cdfe5e0b5ec8b6f9c701d42db57594b044ff0a682", func := "loop.example/g03403/laws.FnExactReduceTable", spec := "fnExactReduceTable", unfollowed := true, recurses := true, apart := false }
def FnExactReduceTableSaid : Prop := fnExactReduceTableRow.holds Try.pinned (OpenSpec.ofChange fnExactReduceTableSpec)

/-- ITS FALSE NEIGHBOUR: 'it returns false'. Refute it at one input. -/
def fnExactReduceTableWrong : ChangeSpec := { name := "fnExactReduceTable", fn := fun _ => fun
  | [d] => { results := [.lit (.bool false)], args := [d] }
  | _ => none }
def FnExactReduceTableWrongFalsely : Prop := fnExactReduceTableRow.holds Try.pinned (OpenSpec.ofChange fnExactReduceTableWrong)

/-- 'laws.FnExactVariablesOf': WHATEVER THE INPUT: true; the input reads as it did. -/
def fnExactVariablesOfSpec : ChangeSpec := { name := "fnExactVariablesOf", fn := fun _ => fun
  | [d] => { results := [.lit (.bool true)], args := [d] }
  | _ => none }
def fnExactVariablesOfRow : OpenClaim := { program := "ytijpcemcijaeeaa", sum := "7d43017f8e71774718e8307cdfe5e0b5ec8b6f9c701d42db57594b044ff0a682", func := "loop.example/g03403/laws.FnExactVariablesOf", spec := "fnExactVariablesOf", unfollowed := true, recurses := true, apart := false }
def FnExactVariablesOfSaid : Prop := fnExactVariablesOfRow.holds Try.pinned (OpenSpec.ofChange fnExactVariablesOfSpec)

/-- ITS FALSE NEIGHBOUR: 'it returns false'. Refute it at one input. -/
def fnExactVariablesOfWrong : ChangeSpec := { name := "fnExactVariablesOf", fn := fun _ => fun
  | [d] => { results := [.lit (.bool false)], args := [d] }
  | _ => none }
def FnExactVariablesOfWrongFalsely : Prop := fnExactVariablesOfRow.holds Try.pinned (OpenSpec.ofChange fnExactVariablesOfWrong)

/-- 'laws.FnExactPermuteTable': WHATEVER THE INPUT: true; the input reads as it did. -/
def fnExactPermuteTableSpec : ChangeSpec := { name := "fnExactPermuteTable", fn := fun _ => fun
  | [d1, d2] => { results := [.lit (.bool true)], args := [d1, d2] }
  | _ => none }
def fnExactPermuteTableRow : OpenClaim := { program := "ytijpcemcijaeeaa", sum := "7d43017f8e71774718e8307cdfe5e0b5ec8b6f9c701d42db57594b044ff0a682", func := "loop.example/g03403/laws.FnExactPermuteTable", spec := "fnExactPermuteTable", apart := false }
def FnExactPermuteTableSaid : Prop := fnExactPermuteTableRow.holds Try.pinned (OpenSpec.ofChange fnExactPermuteTableSpec)

/-- ITS FALSE NEIGHBOUR: 'it returns false'. Refute it at one input. -/
def fnExactPermuteTableWrong : ChangeSpec := { name := "fnExactPermuteTable", fn := fun _ => fun
  | [d1, d2] => { results := [.lit (.bool false)], args := [d1, d2] }
  | _ => none }
def FnExactPermuteTableWrongFalsely : Prop := fnExactPermuteTableRow.holds Try.pinned (OpenSpec.ofChange fnExactPermuteTableWrong)

/-- 'laws.FnExactPermutationsOf': WHATEVER THE INPUT: true; the input reads as it did. -/
def fnExactPermutationsOfSpec : ChangeSpec := { name := "fnExactPermutationsOf", fn := fun _ => fun
  | [d] => { results := [.lit (.bool true)], args := [d] }
  | _ => none }
def fnExactPermutationsOfRow : OpenClaim := { program := "ytijpcemcijaeeaa", sum := "7d43017f8e71774718e8307cdfe5e0b5ec8b6f9c701d42db57594b044ff0a682", func := "loop.example/g03403/laws.FnExactPermutationsOf", spec := "fnExactPermutationsOf", unfollowed := true, recurses := true, apart := false }
def FnExactPermutationsOfSaid : Prop := fnExactPermutationsOfRow.holds Try.pinned (OpenSpec.ofChange fnExactPermutationsOfSpec)

/-- ITS FALSE NEIGHBOUR: 'it returns false'. Refute it at one input. -/
def fnExactPermutationsOfWrong : ChangeSpec := { name := "fnExactPermutationsOf", fn := fun _ => fun
  | [d] => { results := [.lit (.bool false)], args := [d] }
  | _ => none }
def FnExactPermutationsOfWrongFalsely : Prop := fnExactPermutationsOfRow.holds Try.pinned (OpenSpec.ofChange fnExactPermutationsOfWrong)

/-- 'laws.FnExactSymmetriesOf': WHATEVER THE INPUT: true; the input reads as it did. -/
def fnExactSymmetriesOfSpec : ChangeSpec := { name := "fnExactSymmetriesOf", fn := fun _ => fun
  | [d] => { results := [.lit (.bool true)], args := [d] }
  | _ => none }
def fnExactSymmetriesOfRow : OpenClaim := { program := "ytijpcemcijaeeaa", sum := "7d43017f8e71774718e8307cdfe5e0b5ec8b6f9c701d42db57594b044ff0a682", func := "loop.example/g03403/laws.FnExactSymmetriesOf", spec := "fnExactSymmetriesOf", unfollowed := true, recurses := true, apart := false }
def FnExactSymmetriesOfSaid : Prop := fnExactSymmetriesOfRow.holds Try.pinned (OpenSpec.ofChange fnExactSymmetriesOfSpec)

/-- ITS FALSE NEIGHBOUR: 'it returns false'. Refute it at one input. -/
def fnExactSymmetriesOfWrong : ChangeSpec := { name := "fnExactSymmetriesOf", fn := fun _ => fun
  | [d] => { results := [.lit (.bool false)], args := [d] }
  | _ => none }
def FnExactSymmetriesOfWrongFalsely : Prop := fnExactSymmetriesOfRow.holds Try.pinned (OpenSpec.ofChange fnExactSymmetriesOfWrong)

/-- 'laws.FnExactCountTableClasses': WHATEVER THE INPUT: true; the input reads as it did. -/
def fnExactCountTableClassesSpec : ChangeSpec := { name := "fnExactCountTableClasses", fn := fun _ => fun
  | [d] => { results := [.lit (.bool true)], args := [d] }
  | _ => none }
def fnExactCountTableClassesRow : OpenClaim := { program := "ytijpcemcijaeeaa", sum := "7d43017f8e71774718e8307cdfe5e0b5ec8b6f9c701d42db57594b044ff0a682", func := "loop.example/g03403/laws.FnExactCountTableClasses", spec := "fnExactCountTableClasses", unfollowed := true, recurses := true, apart := false }
def FnExactCountTableClassesSaid : Prop := fnExactCountTableClassesRow.holds Try.pinned (OpenSpec.ofChange fnExactCountTableClassesSpec)

/-- ITS FALSE NEIGHBOUR: 'it returns false'. Refute it at one input. -/
def fnExactCountTableClassesWrong : ChangeSpec := { name := "fnExactCountTableClasses", fn := fun _ => fun
  | [d] => { results := [.lit (.bool false)], args := [d] }
  | _ => none }
def FnExactCountTableClassesWrongFalsely : Prop := fnExactCountTableClassesRow.holds Try.pinned (OpenSpec.ofChange fnExactCountTableClassesWrong)

/-- 'laws.FnExactClassSize': WHATEVER THE INPUT: true; the input reads as it did. -/
def fnExactClassSizeSpec : ChangeSpec := { name := "fnExactClassSize", fn := fun _ => fun
  | [d] => { results := [.lit (.bool true)], args := [d] }
  | _ => none }
def fnExactClassSizeRow : OpenClaim := { program := "ytijpcemcijaeeaa", sum := "7d43017f8e71774718e8307cdfe5e0b5ec8b6f9c701d42db57594b044ff0a682", func := "loop.example/g03403/laws.FnExactClassSize", spec := "fnExactClassSize", unfollowed := true, recurses := true, apart := false }
def FnExactClassSizeSaid : Prop := fnExactClassSizeRow.holds Try.pinned (OpenSpec.ofChange fnExactClassSizeSpec)

/-- ITS FALSE NEIGHBOUR: 'it returns false'. Refute it at one input. -/
def fnExactClassSizeWrong : ChangeSpec := { name := "fnExactClassSize", fn := fun _ => fun
  | [d] => { results := [.lit (.bool false)], args := [d] }
  | _ => none }
def FnExactClassSizeWrongFalsely : Prop := fnExactClassSizeRow.holds Try.pinned (OpenSpec.ofChange fnExactClassSizeWrong)

/-- 'laws.FnExactCanonicalTable': WHATEVER THE INPUT: true; the input reads as it did. -/
def fnExactCanonicalTableSpec : ChangeSpec := { name := "fnExactCanonicalTable", fn := fun _ => fun
  | [d] => { results := [.lit (.bool true)], args := [d] }
  | _ => none }
def fnExactCanonicalTableRow : OpenClaim := { program := "ytijpcemcijaeeaa", sum := "7d43017f8e71774718e8307cdfe5e0b5ec8b6f9c701d42db57594b044ff0a682", func := "loop.example/g03403/laws.FnExactCanonicalTable", spec := "fnExactCanonicalTable", unfollowed := true, recurses := true, apart := false }
def FnExactCanonicalTableSaid : Prop := fnExactCanonicalTableRow.holds Try.pinned (OpenSpec.ofChange fnExactCanonicalTableSpec)

/-- ITS FALSE NEIGHBOUR: 'it returns false'. Refute it at one input. -/
def fnExactCanonicalTableWrong : ChangeSpec := { name := "fnExactCanonicalTable", fn := fun _ => fun
  | [d] => { results := [.lit (.bool false)], args := [d] }
  | _ => none }
def FnExactCanonicalTableWrongFalsely : Prop := fnExactCanonicalTableRow.holds Try.pinned (OpenSpec.ofChange fnExactCanonicalTableWrong)

/-- 'laws.FnExactAreAlike': WHATEVER THE INPUT: true; the input reads as it did. -/
def fnExactAreAlikeSpec : ChangeSpec := { name := "fnExactAreAlike", fn := fun _ => fun
  | [d1, d2] => { results := [.lit (.bool true)], args := [d1, d2] }
  | _ => none }
def fnExactAreAlikeRow : OpenClaim := { program := "ytijpcemcijaeeaa", sum := "7d43017f8e71774718e8307cdfe5e0b5ec8b6f9c701d42db57594b044ff0a682", func := "loop.example/g03403/laws.FnExactAreAlike", spec := "fnExactAreAlike", unfollowed := true, recurses := true, apart := false }
def FnExactAreAlikeSaid : Prop := fnExactAreAlikeRow.holds Try.pinned (OpenSpec.ofChange fnExactAreAlikeSpec)

/-- ITS FALSE NEIGHBOUR: 'it returns false'. Refute it at one input. -/
def fnExactAreAlikeWrong : ChangeSpec := { name := "fnExactAreAlike", fn := fun _ => fun
  | [d1, d2] => { results := [.lit (.bool false)], args := [d1, d2] }
  | _ => none }
def FnExactAreAlikeWrongFalsely : Prop := fnExactAreAlikeRow.holds Try.pinned (OpenSpec.ofChange fnExactAreAlikeWrong)

/-- 'laws.FnRestrictions': WHATEVER THE INPUT: true; the input reads as it did. -/
def fnRestrictionsSpec : ChangeSpec := { name := "fnRestrictions", fn := fun _ => fun
  | [d] => { results := [.lit (.bool true)], args := [d] }
  | _ => none }
def fnRestrictionsRow : OpenClaim := { program := "ytijpcemcijaeeaa", sum := "7d43017f8e71774718e8307cdfe5e0b5ec8b6f9c701d42db57594b044ff0a682", func := "loop.example/g03403/laws.FnRestrictions", spec := "fnRestrictions", unfollowed := true, recurses := true, apart := false }
def FnRestrictionsSaid : Prop := fnRestrictionsRow.holds Try.pinned (OpenSpec.ofChange fnRestrictionsSpec)

/-- ITS FALSE NEIGHBOUR: 'it returns false'. Refute it at one input. -/
def fnRestrictionsWrong : ChangeSpec := { name := "fnRestrictions", fn := fun _ => fun
  | [d] => { results := [.lit (.bool false)], args := [d] }
  | _ => none }
def FnRestrictionsWrongFalsely : Prop := fnRestrictionsRow.holds Try.pinned (OpenSpec.ofChange fnRestrictionsWrong)

/- THE SECOND FORM. 'bulk': how many values and letters a reading holds, each counted each time it is reached (what is shared counts as often as it is met; a slice's spare places count too). A statement '..UptoSaid' is the law's where the arguments, and the package variables that the reading takes, are together of bulk at most 1048576: NARROWER than '..Said'. Prove '..Said' where nothing that the law and all that it calls make is longer than what came in: it says more and counts as full. Else prove '..UptoSaid'. A law counts once. -/
mutual
def uptoBulk {H : Type} : DataW H → Nat
  | .lit (.string bytes) => bytes.length + 1
  | .lit _ => 1
  | .nil => 1
  | .ptr d => uptoBulk d + 1
  | .slice elems spare => uptoBulkAll elems + uptoBulkAll spare + 1
  | .agg parts => uptoBulkAll parts + 1
  | .iface _ d => uptoBulk d + 1
  | .map entries => uptoBulkEntries entries + 1
  | .held _ => 1
def uptoBulkAll {H : Type} : List (DataW H) → Nat
  | [] => 0
  | d :: r => uptoBulk d + uptoBulkAll r
def uptoBulkEntries {H : Type} : List (Lit × DataW H) → Nat
  | [] => 0
  | x :: r => uptoBulkEntry x + uptoBulkEntries r
def uptoBulkEntry {H : Type} : Lit × DataW H → Nat
  | (.string bytes, d) => bytes.length + uptoBulk d + 1
  | (_, d) => uptoBulk d + 1
 end
def uptoSmall : (H : Type) → List (DataW H) → Bool := fun _ ds => decide (uptoBulkAll ds ≤ 1048576)
def OpenSpec.upto (s : _root_.Go.ChangeSpec) : _root_.Go.OpenSpec := { _root_.Go.OpenSpec.ofChange s with cond := some uptoSmall }

/-- 'laws.FnExactVariableTable', WHERE WHAT IT READS IS OF BULK AT MOST 1048576: true; the input reads as it did. -/
def fnExactVariableTableUptoRow : OpenClaim := { program := "ytijpcemcijaeeaa", sum := "7d43017f8e71774718e8307cdfe5e0b5ec8b6f9c701d42db57594b044ff0a682", func := "loop.example/g03403/laws.FnExactVariableTable", spec := "fnExactVariableTable", unfollowed := true, recurses := true, apart := false, narrowed := true }
def FnExactVariableTableUptoSaid : Prop := fnExactVariableTableUptoRow.holds Try.pinned (OpenSpec.upto fnExactVariableTableSpec)

/-- 'laws.FnExactCountOnes', WHERE WHAT IT READS IS OF BULK AT MOST 1048576: true; the input reads as it did. -/
def fnExactCountOnesUptoRow : OpenClaim := { program := "ytijpcemcijaeeaa", sum := "7d43017f8e71774718e8307cdfe5e0b5ec8b6f9c701d42db57594b044ff0a682", func := "loop.example/g03403/laws.FnExactCountOnes", spec := "fnExactCountOnes", apart := false, narrowed := true }
def FnExactCountOnesUptoSaid : Prop := fnExactCountOnesUptoRow.holds Try.pinned (OpenSpec.upto fnExactCountOnesSpec)

/-- 'laws.FnExactParseTable', WHERE WHAT IT READS IS OF BULK AT MOST 1048576: true; the input reads as it did. -/
def fnExactParseTableUptoRow : OpenClaim := { program := "ytijpcemcijaeeaa", sum := "7d43017f8e71774718e8307cdfe5e0b5ec8b6f9c701d42db57594b044ff0a682", func := "loop.example/g03403/laws.FnExactParseTable", spec := "fnExactParseTable", unfollowed := true, recurses := true, apart := false, narrowed := true }
def FnExactParseTableUptoSaid : Prop := fnExactParseTableUptoRow.holds Try.pinned (OpenSpec.upto fnExactParseTableSpec)

/-- 'laws.FnExactDependsOn', WHERE WHAT IT READS IS OF BULK AT MOST 1048576: true; the input reads as it did. -/
def fnExactDependsOnUptoRow : OpenClaim := { program := "ytijpcemcijaeeaa", sum := "7d43017f8e71774718e8307cdfe5e0b5ec8b6f9c701d42db57594b044ff0a682", func := "loop.example/g03403/laws.FnExactDependsOn", spec := "fnExactDependsOn", unfollowed := true, recurses := true, apart := false, narrowed := true }
def FnExactDependsOnUptoSaid : Prop := fnExactDependsOnUptoRow.holds Try.pinned (OpenSpec.upto fnExactDependsOnSpec)

/-- 'laws.FnExactJoinTables', WHERE WHAT IT READS IS OF BULK AT MOST 1048576: true; the input reads as it did. -/
def fnExactJoinTablesUptoRow : OpenClaim := { program := "ytijpcemcijaeeaa", sum := "7d43017f8e71774718e8307cdfe5e0b5ec8b6f9c701d42db57594b044ff0a682", func := "loop.example/g03403/laws.FnExactJoinTables", spec := "fnExactJoinTables", apart := false, narrowed := true }
def FnExactJoinTablesUptoSaid : Prop := fnExactJoinTablesUptoRow.holds Try.pinned (OpenSpec.upto fnExactJoinTablesSpec)

/-- 'laws.FnExactShiftTable', WHERE WHAT IT READS IS OF BULK AT MOST 1048576: true; the input reads as it did. -/
def fnExactShiftTableUptoRow : OpenClaim := { program := "ytijpcemcijaeeaa", sum := "7d43017f8e71774718e8307cdfe5e0b5ec8b6f9c701d42db57594b044ff0a682", func := "loop.example/g03403/laws.FnExactShiftTable", spec := "fnExactShiftTable", unfollowed := true, recurses := true, apart := false, narrowed := true }
def FnExactShiftTableUptoSaid : Prop := fnExactShiftTableUptoRow.holds Try.pinned (OpenSpec.upto fnExactShiftTableSpec)

/-- 'laws.FnExactCubeValue', WHERE WHAT IT READS IS OF BULK AT MOST 1048576: true; the input reads as it did. -/
def fnExactCubeValueUptoRow : OpenClaim := { program := "ytijpcemcijaeeaa", sum := "7d43017f8e71774718e8307cdfe5e0b5ec8b6f9c701d42db57594b044ff0a682", func := "loop.example/g03403/laws.FnExactCubeValue", spec := "fnExactCubeValue", apart := false, narrowed := true }
def FnExactCubeValueUptoSaid : Prop := fnExactCubeValueUptoRow.holds Try.pinned (OpenSpec.upto fnExactCubeValueSpec)

/-- 'laws.FnExactRestrictTable', WHERE WHAT IT READS IS OF BULK AT MOST 1048576: true; the input reads as it did. -/
def fnExactRestrictTableUptoRow : OpenClaim := { program := "ytijpcemcijaeeaa", sum := "7d43017f8e71774718e8307cdfe5e0b5ec8b6f9c701d42db57594b044ff0a682", func := "loop.example/g03403/laws.FnExactRestrictTable", spec := "fnExactRestrictTable", unfollowed := true, recurses := true, apart := false, narrowed := true }
def FnExactRestrictTableUptoSaid : Prop := fnExactRestrictTableUptoRow.holds Try.pinned (OpenSpec.upto fnExactRestrictTableSpec)

/-- 'laws.FnExactReduceTable', WHERE WHAT IT READS IS OF BULK AT MOST 1048576: true; the input reads as it did. -/
def fnExactReduceTableUptoRow : OpenClaim := { program := "ytijpcemcijaeeaa", sum := "7d43017f8e71774718e8307cdfe5e0b5ec8b6f9c701d42db57594b044ff0a682", func := "loop.example/g03403/laws.FnExactReduceTable", spec := "fnExactReduceTable", unfollowed := true, recurses := true, apart := false, narrowed := true }
def FnExactReduceTableUptoSaid : Prop := fnExactReduceTableUptoRow.holds Try.pinned (OpenSpec.upto fnExactReduceTableSpec)

/-- 'laws.FnExactVariablesOf', WHERE WHAT IT READS IS OF BULK AT MOST 1048576: true; the input reads as it did. -/
def fnExactVariablesOfUptoRow : OpenClaim := { program := "ytijpcemcijaeeaa", sum := "7d43017f8e71774718e8307cdfe5e0b5ec8b6f9c701d42db57594b044ff0a682", func := "loop.example/g03403/laws.FnExactVariablesOf", spec := "fnExactVariablesOf", unfollowed := true, recurses := true, apart := false, narrowed := true }
def FnExactVariablesOfUptoSaid : Prop := fnExactVariablesOfUptoRow.holds Try.pinned (OpenSpec.upto fnExactVariablesOfSpec)

/-- 'laws.FnExactPermuteTable', WHERE WHAT IT READS IS OF BULK AT MOST 1048576: true; the input reads as it did. -/
def fnExactPermuteTableUptoRow : OpenClaim := { program := "ytijpcemcijaeeaa", sum := "7d43017f8e71774718e8307cdfe5e0b5ec8b6f9c701d42db57594b044ff0a682", func := "loop.example/g03403/laws.FnExactPermuteTable", spec := "fnExactPermuteTable", apart := false, narrowed := true }
def FnExactPermuteTableUptoSaid : Prop := fnExactPermuteTableUptoRow.holds Try.pinned (OpenSpec.upto fnExactPermuteTableSpec)

/-- 'laws.FnExactPermutationsOf', WHERE WHAT IT READS IS OF BULK AT MOST 1048576: true; the input reads as it did. -/
def fnExactPermutationsOfUptoRow : OpenClaim := { program := "ytijpcemcijaeeaa", sum := "7d43017f8e71774718e8307cdfe5e0b5ec8b6f9c701d42db57594b044ff0a682", func := "loop.example/g03403/laws.FnExactPermutationsOf", spec := "fnExactPermutationsOf", unfollowed := true, recurses := true, apart := false, narrowed := true }
def FnExactPermutationsOfUptoSaid : Prop := fnExactPermutationsOfUptoRow.holds Try.pinned (OpenSpec.upto fnExactPermutationsOfSpec)

/-- 'laws.FnExactSymmetriesOf', WHERE WHAT IT READS IS OF BULK AT MOST 1048576: true; the input reads as it did. -/
def fnExactSymmetriesOfUptoRow : OpenClaim := { program := "ytijpcemcijaeeaa", sum := "7d43017f8e71774718e8307cdfe5e0b5ec8b6f9c701d42db57594b044ff0a682", func := "loop.example/g03403/laws.FnExactSymmetriesOf", spec := "fnExactSymmetriesOf", unfollowed := true, recurses := true, apart := false, narrowed := true }
def FnExactSymmetriesOfUptoSaid : Prop := fnExactSymmetriesOfUptoRow.holds Try.pinned (OpenSpec.upto fnExactSymmetriesOfSpec)

/-- 'laws.FnExactCountTableClasses', WHERE WHAT IT READS IS OF BULK AT MOST 1048576: true; the input reads as it did. -/
def fnExactCountTableClassesUptoRow : OpenClaim := { program := "ytijpcemcijaeeaa", sum := "7d43017f8e71774718e8307cdfe5e0b5ec8b6f9c701d42db57594b044ff0a682", func := "loop.example/g03403/laws.FnExactCountTableClasses", spec := "fnExactCountTableClasses", unfollowed := true, recurses := true, apart := false, narrowed := true }
def FnExactCountTableClassesUptoSaid : Prop := fnExactCountTableClassesUptoRow.holds Try.pinned (OpenSpec.upto fnExactCountTableClassesSpec)

/-- 'laws.FnExactClassSize', WHERE WHAT IT READS IS OF BULK AT MOST 1048576: true; the input reads as it did. -/
def fnExactClassSizeUptoRow : OpenClaim := { program := "ytijpcemcijaeeaa", sum := "7d43017f8e71774718e8307cdfe5e0b5ec8b6f9c701d42db57594b044ff0a682", func := "loop.example/g03403/laws.FnExactClassSize", spec := "fnExactClassSize", unfollowed := true, recurses := true, apart := false, narrowed := true }
def FnExactClassSizeUptoSaid : Prop := fnExactClassSizeUptoRow.holds Try.pinned (OpenSpec.upto fnExactClassSizeSpec)

/-- 'laws.FnExactCanonicalTable', WHERE WHAT IT READS IS OF BULK AT MOST 1048576: true; the input reads as it did. -/
def fnExactCanonicalTableUptoRow : OpenClaim := { program := "ytijpcemcijaeeaa", sum := "7d43017f8e71774718e8307cdfe5e0b5ec8b6f9c701d42db57594b044ff0a682", func := "loop.example/g03403/laws.FnExactCanonicalTable", spec := "fnExactCanonicalTable", unfollowed := true, recurses := true, apart := false, narrowed := true }
def FnExactCanonicalTableUptoSaid : Prop := fnExactCanonicalTableUptoRow.holds Try.pinned (OpenSpec.upto fnExactCanonicalTableSpec)

/-- 'laws.FnExactAreAlike', WHERE WHAT IT READS IS OF BULK AT MOST 1048576: true; the input reads as it did. -/
def fnExactAreAlikeUptoRow : OpenClaim := { program := "ytijpcemcijaeeaa", sum := "7d43017f8e71774718e8307cdfe5e0b5ec8b6f9c701d42db57594b044ff0a682", func := "loop.example/g03403/laws.FnExactAreAlike", spec := "fnExactAreAlike", unfollowed := true, recurses := true, apart := false, narrowed := true }
def FnExactAreAlikeUptoSaid : Prop := fnExactAreAlikeUptoRow.holds Try.pinned (OpenSpec.upto fnExactAreAlikeSpec)

/-- 'laws.FnRestrictions', WHERE WHAT IT READS IS OF BULK AT MOST 1048576: true; the input reads as it did. -/
def fnRestrictionsUptoRow : OpenClaim := { program := "ytijpcemcijaeeaa", sum := "7d43017f8e71774718e8307cdfe5e0b5ec8b6f9c701d42db57594b044ff0a682", func := "loop.example/g03403/laws.FnRestrictions", spec := "fnRestrictions", unfollowed := true, recurses := true, apart := false, narrowed := true }
def FnRestrictionsUptoSaid : Prop := fnRestrictionsUptoRow.holds Try.pinned (OpenSpec.upto fnRestrictionsSpec)

end Rows
end Go.Proofs.Ytijpcemcijaeeaa
