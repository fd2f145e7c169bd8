/-
  No cell of these rows narrows 'for every input' (looked for: loops, veiled, ifaces, maps, wideKeys, modest, calm, conditions, laid).
  DERIVED. THE GIVEN ROWS OF THIS SEAT. 8 by the template 'for every input the law returns true; each argument reads behind the call as it read before'; 0 by the template 'total and deterministic' (their statements: YtcldfmnkeiogdaaTotals.lean).
  GIVEN WITH THE SEED: the statements are not yours to turn. If you find one false, say at which input.
  Laid BY PROGRAM, IN A SANDBOX (cutbox-rows.mjs): the forced cells as the released guide's own fill.sh prints them over the translation f92f8fb07f2a2ba0… (all of the seat's roots in one cut). By AI agents, Wed Nov 11 2026. No macro, syntax, notation, axiom, sorry.
-/
import Derived.Test.YtcldfmnkeiogdaaChecked
import GoSem.Claim
import GoSem.ClaimJoined
import GoSem.ClaimMapViews
import Derived.JoinedTies
import Derived.KernelRfl
namespace Go.Proofs.Ytcldfmnkeiogdaa
/- THE CELL 'sum', in the pinned program and in every row, IS THE sha256 OF THE DUMP (.gsa) THAT YtcldfmnkeiogdaaProg.lean LOADS. Nothing in Lean hashes anything: it is a label: what it is worth is what the hold of that sum in a sandbox is worth. -/
noncomputable def Try.pinned : Pinned := { name := "ytcldfmnkeiogdaa", sum := "f92f8fb07f2a2ba02ab9ad30de54662537f829fe2985a514192571b7767bb33f", checked := Try.checked }
namespace Rows
def none {H : Type} : Left H := { results := [], args := [] }

/-- 'laws.FnExactTurnBack': WHATEVER THE INPUT: true; the input reads as it did. -/
def fnExactTurnBackSpec : ChangeSpec := { name := "fnExactTurnBack", fn := fun _ => fun
  | [d] => { results := [.lit (.bool true)], args := [d] }
  | _ => none }
def fnExactTurnBackRow : OpenClaim := { program := "ytcldfmnkeiogdaa", sum := "f92f8fb07f2a2ba02ab9ad30de54662537f829fe2985a514192571b7767bb33f", func := "loop.example/g01166/laws.FnExactTurnBack", spec := "fnExactTurnBack", plainKeys := false, apart := false }
def FnExactTurnBackSaid : Prop := fnExactTurnBackRow.holds Try.pinned (OpenSpec.ofChange fnExactTurnBackSpec)

/-- ITS FALSE NEIGHBOUR: 'it returns false'. Refute it at one input. -/
def fnExactTurnBackWrong : ChangeSpec := { name := "fnExactTurnBack", fn := fun _ => fun
  | [d] => { results := [.lit (.bool false)], args := [d] }
  | _ => none }
def FnExactTurnBackWrongFalsely : Prop := fnExactTurnBackRow.holds Try.pinned (OpenSpec.ofChange fnExactTurnBackWrong)

/-- 'laws.FnExactTurnBehind': WHATEVER THE INPUT: true; the input reads as it did. -/
def fnExactTurnBehindSpec : ChangeSpec := { name := "fnExactTurnBehind", fn := fun _ => fun
  | [d1, d2] => { results := [.lit (.bool true)], args := [d1, d2] }
  | _ => none }
def fnExactTurnBehindRow : OpenClaim := { program := "ytcldfmnkeiogdaa", sum := "f92f8fb07f2a2ba02ab9ad30de54662537f829fe2985a514192571b7767bb33f", func := "loop.example/g01166/laws.FnExactTurnBehind", spec := "fnExactTurnBehind", plainKeys := false, apart := false }
def FnExactTurnBehindSaid : Prop := fnExactTurnBehindRow.holds Try.pinned (OpenSpec.ofChange fnExactTurnBehindSpec)

/-- ITS FALSE NEIGHBOUR: 'it returns false'. Refute it at one input. -/
def fnExactTurnBehindWrong : ChangeSpec := { name := "fnExactTurnBehind", fn := fun _ => fun
  | [d1, d2] => { results := [.lit (.bool false)], args := [d1, d2] }
  | _ => none }
def FnExactTurnBehindWrongFalsely : Prop := fnExactTurnBehindRow.holds Try.pinned (OpenSpec.ofChange fnExactTurnBehindWrong)

/-- 'laws.FnExactTurnOrder': WHATEVER THE INPUT: true; the input reads as it did. -/
def fnExactTurnOrderSpec : ChangeSpec := { name := "fnExactTurnOrder", fn := fun _ => fun
  | [d] => { results := [.lit (.bool true)], args := [d] }
  | _ => none }
def fnExactTurnOrderRow : OpenClaim := { program := "ytcldfmnkeiogdaa", sum := "f92f8fb07f2a2ba02ab9ad30de54662537f829fe2985a514192571b7767bb33f", func := "loop.example/g01166/laws.FnExactTurnOrder", spec := "fnExactTurnOrder", plainKeys := false, apart := false }
def FnExactTurnOrderSaid : Prop := fnExactTurnOrderRow.holds Try.pinned (OpenSpec.ofChange fnExactTurnOrderSpec)

/-- ITS FALSE NEIGHBOUR: 'it returns false'. Refute it at one input. -/
def fnExactTurnOrderWrong : ChangeSpec := { name := "fnExactTurnOrder", fn := fun _ => fun
  | [d] => { results := [.lit (.bool false)], args := [d] }
  | _ => none }
def FnExactTurnOrderWrongFalsely : Prop := fnExactTurnOrderRow.holds Try.pinned (OpenSpec.ofChange fnExactTurnOrderWrong)

/-- 'laws.FnExactCountTables': WHATEVER THE INPUT: true; the input reads as it did. -/
def fnExactCountTablesSpec : ChangeSpec := { name := "fnExactCountTables", fn := fun _ => fun
  | [d1, d2] => { results := [.lit (.bool true)], args := [d1, d2] }
  | _ => none }
def fnExactCountTablesRow : OpenClaim := { program := "ytcldfmnkeiogdaa", sum := "f92f8fb07f2a2ba02ab9ad30de54662537f829fe2985a514192571b7767bb33f", func := "loop.example/g01166/laws.FnExactCountTables", spec := "fnExactCountTables", unfollowed := true, recurses := true, plainKeys := false, apart := false }
def FnExactCountTablesSaid : Prop := fnExactCountTablesRow.holds Try.pinned (OpenSpec.ofChange fnExactCountTablesSpec)

/-- ITS FALSE NEIGHBOUR: 'it returns false'. Refute it at one input. -/
def fnExactCountTablesWrong : ChangeSpec := { name := "fnExactCountTables", fn := fun _ => fun
  | [d1, d2] => { results := [.lit (.bool false)], args := [d1, d2] }
  | _ => none }
def FnExactCountTablesWrongFalsely : Prop := fnExactCountTablesRow.holds Try.pinned (OpenSpec.ofChange fnExactCountTablesWrong)

/-- 'laws.FnExactCanTable': WHATEVER THE INPUT: true; the input reads as it did. -/
def fnExactCanTableSpec : ChangeSpec := { name := "fnExactCanTable", fn := fun _ => fun
  | [d1, d2] => { results := [.lit (.bool true)], args := [d1, d2] }
  | _ => none }
def fnExactCanTableRow : OpenClaim := { program := "ytcldfmnkeiogdaa", sum := "f92f8fb07f2a2ba02ab9ad30de54662537f829fe2985a514192571b7767bb33f", func := "loop.example/g01166/laws.FnExactCanTable", spec := "fnExactCanTable", unfollowed := true, recurses := true, plainKeys := false, apart := false }
def FnExactCanTableSaid : Prop := fnExactCanTableRow.holds Try.pinned (OpenSpec.ofChange fnExactCanTableSpec)

/-- ITS FALSE NEIGHBOUR: 'it returns false'. Refute it at one input. -/
def fnExactCanTableWrong : ChangeSpec := { name := "fnExactCanTable", fn := fun _ => fun
  | [d1, d2] => { results := [.lit (.bool false)], args := [d1, d2] }
  | _ => none }
def FnExactCanTableWrongFalsely : Prop := fnExactCanTableRow.holds Try.pinned (OpenSpec.ofChange fnExactCanTableWrong)

/-- 'laws.FnExactFirstTable': WHATEVER THE INPUT: true; the input reads as it did. -/
def fnExactFirstTableSpec : ChangeSpec := { name := "fnExactFirstTable", fn := fun _ => fun
  | [d1, d2] => { results := [.lit (.bool true)], args := [d1, d2] }
  | _ => none }
def fnExactFirstTableRow : OpenClaim := { program := "ytcldfmnkeiogdaa", sum := "f92f8fb07f2a2ba02ab9ad30de54662537f829fe2985a514192571b7767bb33f", func := "loop.example/g01166/laws.FnExactFirstTable", spec := "fnExactFirstTable", unfollowed := true, recurses := true, plainKeys := false, apart := false }
def FnExactFirstTableSaid : Prop := fnExactFirstTableRow.holds Try.pinned (OpenSpec.ofChange fnExactFirstTableSpec)

/-- ITS FALSE NEIGHBOUR: 'it returns false'. Refute it at one input. -/
def fnExactFirstTableWrong : ChangeSpec := { name := "fnExactFirstTable", fn := fun _ => fun
  | [d1, d2] => { results := [.lit (.bool false)], args := [d1, d2] }
  | _ => none }
def FnExactFirstTableWrongFalsely : Prop := fnExactFirstTableRow.holds Try.pinned (OpenSpec.ofChange fnExactFirstTableWrong)

/-- 'laws.FnExactBodyCounts': WHATEVER THE INPUT: true; the input reads as it did. -/
def fnExactBodyCountsSpec : ChangeSpec := { name := "fnExactBodyCounts", fn := fun _ => fun
  | [d] => { results := [.lit (.bool true)], args := [d] }
  | _ => none }
def fnExactBodyCountsRow : OpenClaim := { program := "ytcldfmnkeiogdaa", sum := "f92f8fb07f2a2ba02ab9ad30de54662537f829fe2985a514192571b7767bb33f", func := "loop.example/g01166/laws.FnExactBodyCounts", spec := "fnExactBodyCounts", plainKeys := false, apart := false }
def FnExactBodyCountsSaid : Prop := fnExactBodyCountsRow.holds Try.pinned (OpenSpec.ofChange fnExactBodyCountsSpec)

/-- ITS FALSE NEIGHBOUR: 'it returns false'. Refute it at one input. -/
def fnExactBodyCountsWrong : ChangeSpec := { name := "fnExactBodyCounts", fn := fun _ => fun
  | [d] => { results := [.lit (.bool false)], args := [d] }
  | _ => none }
def FnExactBodyCountsWrongFalsely : Prop := fnExactBodyCountsRow.holds Try.pinned (OpenSpec.ofChange fnExactBodyCountsWrong)

/-- 'laws.FnExactEulerNumber': WHATEVER THE INPUT: true; the input reads as it did. -/
def fnExactEulerNumberSpec : ChangeSpec := { name := "fnExactEulerNumber", fn := fun _ => fun
  | [d] => { results := [.lit (.bool true)], args := [d] }
  | _ => none }
def fnExactEulerNumberRow : OpenClaim := { program := "ytcldfmnkeiogdaa", sum := "f92f8fb07f2a2ba02ab9ad30de54662537f829fe2985a514192571b7767bb33f", func := "loop.example/g01166/laws.FnExactEulerNumber", spec := "fnExactEulerNumber", plainKeys := false, apart := false }
def FnExactEulerNumberSaid : Prop := fnExactEulerNumberRow.holds Try.pinned (OpenSpec.ofChange fnExactEulerNumberSpec)

/-- ITS FALSE NEIGHBOUR: 'it returns false'. Refute it at one input. -/
def fnExactEulerNumberWrong : ChangeSpec := { name := "fnExactEulerNumber", fn := fun _ => fun
  | [d] => { results := [.lit (.bool false)], args := [d] }
  | _ => none }
def FnExactEulerNumberWrongFalsely : Prop := fnExactEulerNumberRow.holds Try.pinned (OpenSpec.ofChange fnExactEulerNumberWrong)

/- THE SECOND FORM. 'bulk': how many values and letters a reading holds, each counted each time it is reached (what is shared counts as often as it is met; a slice's spare places count too). A statement '..UptoSaid' is the law's where the arguments, and the package variables that the reading takes, are together of bulk at most 1048576: NARROWER than '..Said'. Prove '..Said' where nothing that the law and all that it calls make is longer than what came in: it says more and counts as full. Else prove '..UptoSaid'. A law counts once. -/
mutual
def uptoBulk {H : Type} : DataW H → Nat
  | .lit (.string bytes) => bytes.length + 1
  | .lit _ => 1
  | .nil => 1
  | .ptr d => uptoBulk d + 1
  | .slice elems spare => uptoBulkAll elems + uptoBulkAll spare + 1
  | .agg parts => uptoBulkAll parts + 1
  | .iface _ d => uptoBulk d + 1
  | .map entries => uptoBulkEntries entries + 1
  | .held _ => 1
def uptoBulkAll {H : Type} : List (DataW H) → Nat
  | [] => 0
  | d :: r => uptoBulk d + uptoBulkAll r
def uptoBulkEntries {H : Type} : List (Lit × DataW H) → Nat
  | [] => 0
  | x :: r => uptoBulkEntry x + uptoBulkEntries r
def uptoBulkEntry {H : Type} : Lit × DataW H → Nat
  | (.string bytes, d) => bytes.length + uptoBulk d + 1
  | (_, d) => uptoBulk d + 1
 end
def uptoSmall : (H : Type) → List (DataW H) → Bool := fun _ ds => decide (uptoBulkAll ds ≤ 1048576)
def OpenSpec.upto (s : _root_.Go.ChangeSpec) : _root_.Go.OpenSpec := { _root_.Go.OpenSpec.ofChange s with cond := some uptoSmall }

/-- 'laws.FnExactTurnBack', WHERE WHAT IT READS IS OF BULK AT MOST 1048576: true; the input reads as it did. -/
def fnExactTurnBackUptoRow : OpenClaim := { program := "ytcldfmnkeiogdaa", sum := "f92f8fb07f2a2ba02ab9ad30de54662537f829fe2985a514192571b7767bb33f", func := "loop.example/g01166/laws.FnExactTurnBack", spec := "fnExactTurnBack", plainKeys := false, apart := false, narrowed := true }
def FnExactTurnBackUptoSaid : Prop := fnExactTurnBackUptoRow.holds Try.pinned (OpenSpec.upto fnExactTurnBackSpec)

/-- 'laws.FnExactTurnBehind', WHERE WHAT IT READS IS OF BULK AT MOST 1048576: true; the input reads as it did. -/
def fnExactTurnBehindUptoRow : OpenClaim := { program := "ytcldfmnkeiogdaa", sum := "f92f8fb07f2a2ba02ab9ad30de54662537f829fe2985a514192571b7767bb33f", func := "loop.example/g01166/laws.FnExactTurnBehind", spec := "fnExactTurnBehind", plainKeys := false, apart := false, narrowed := true }
def FnExactTurnBehindUptoSaid : Prop := fnExactTurnBehindUptoRow.holds Try.pinned (OpenSpec.upto fnExactTurnBehindSpec)

/-- 'laws.FnExactTurnOrder', WHERE WHAT IT READS IS OF BULK AT MOST 1048576: true; the input reads as it did. -/
def fnExactTurnOrderUptoRow : OpenClaim := { program := "ytcldfmnkeiogdaa", sum := "f92f8fb07f2a2ba02ab9ad30de54662537f829fe2985a514192571b7767bb33f", func := "loop.example/g01166/laws.FnExactTurnOrder", spec := "fnExactTurnOrder", plainKeys := false, apart := false, narrowed := true }
def FnExactTurnOrderUptoSaid : Prop := fnExactTurnOrderUptoRow.holds Try.pinned (OpenSpec.upto fnExactTurnOrderSpec)

/-- 'laws.FnExactCountTables', WHERE WHAT IT READS IS OF BULK AT MOST 1048576: true; the input reads as it did. -/
def fnExactCountTablesUptoRow : OpenClaim := { program := "ytcldfmnkeiogdaa", sum := "f92f8fb07f2a2ba02ab9ad30de54662537f829fe2985a514192571b7767bb33f", func := "loop.example/g01166/laws.FnExactCountTables", spec := "fnExactCountTables", unfollowed := true, recurses := true, plainKeys := false, apart := false, narrowed := true }
def FnExactCountTablesUptoSaid : Prop := fnExactCountTablesUptoRow.holds Try.pinned (OpenSpec.upto fnExactCountTablesSpec)

/-- 'laws.FnExactCanTable', WHERE WHAT IT READS IS OF BULK AT MOST 1048576: true; the input reads as it did. -/
def fnExactCanTableUptoRow : OpenClaim := { program := "ytcldfmnkeiogdaa", sum := "f92f8fb07f2a2ba02ab9ad30de54662537f829fe2985a514192571b7767bb33f", func := "loop.example/g01166/laws.FnExactCanTable", spec := "fnExactCanTable", unfollowed := true, recurses := true, plainKeys := false, apart := false, narrowed := true }
def FnExactCanTableUptoSaid : Prop := fnExactCanTableUptoRow.holds Try.pinned (OpenSpec.upto fnExactCanTableSpec)

/-- 'laws.FnExactFirstTable', WHERE WHAT IT READS IS OF BULK AT MOST 1048576: true; the input reads as it did. -/
def fnExactFirstTableUptoRow : OpenClaim := { program := "ytcldfmnkeiogdaa", sum := "f92f8fb07f2a2ba02ab9ad30de54662537f829fe2985a514192571b7767bb33f", func := "loop.example/g01166/laws.FnExactFirstTable", spec := "fnExactFirstTable", unfollowed := true, recurses := true, plainKeys := false, apart := false, narrowed := true }
def FnExactFirstTableUptoSaid : Prop := fnExactFirstTableUptoRow.holds Try.pinned (OpenSpec.upto fnExactFirstTableSpec)

/-- 'laws.FnExactBodyCounts', WHERE WHAT IT READS IS OF BULK AT MOST 1048576: true; the input reads as it did. -/
def fnExactBodyCountsUptoRow : OpenClaim := { program := "ytcldfmnkeiogdaa", sum := "f92f8fb07f2a2ba02ab9ad30de54662537f829fe2985a514192571b7767bb33f", func := "loop.example/g01166/laws.FnExactBodyCounts", spec := "fnExactBodyCounts", plainKeys := false, apart := false, narrowed := true }
def FnExactBodyCountsUptoSaid : Prop := fnExactBodyCountsUptoRow.holds Try.pinned (OpenSpec.upto fnExactBodyCountsSpec)

/-- 'laws.FnExactEulerNumber', WHERE WHAT IT READS IS OF BULK AT MOST 1048576: true; the input reads as it did. -/
def fnExactEulerNumberUptoRow : OpenClaim := { program := "ytcldfmnkeiogdaa", sum := "f92f8fb07f2a2ba02ab9ad30de54662537f829fe2985a514192571b7767bb33f", func := "loop.example/g01166/laws.FnExactEulerNumber", spec := "fnExactEulerNumber", plainKeys := false, apart := false, narrowed := true }
def FnExactEulerNumberUptoSaid : Prop := fnExactEulerNumberUptoRow.holds Try.pinned (OpenSpec.upto fnExactEulerNumberSpec)

end Rows
end Go.Proofs.Ytcldfmnkeiogdaa
