/-
  No cell of these rows narrows 'for every input' (looked for: loops, veiled, ifaces, maps, wideKeys, modest, calm, conditions, laid).
  DERIVED. THE GIVEN ROWS OF THIS SEAT. 12 by the template 'for every input the law returns true; each argument reads behind the call as it read before'; 0 by the template 'total and deterministic' (their statements: YtpdhoancokljoaaTotals.lean).
  GIVEN WITH THE SEED: the statements are not yours to turn. If you find one false, say at which input.
  Laid BY PROGRAM, IN A SANDBOX (cutbox-rows.mjs): the forced cells as the released guide's own fill.sh prints them over the translation 6f85c865e7f488c0… (all of the seat's roots in one cut). By AI agents, Wed Nov 11 2026. No macro, syntax, notation, axiom, sorry.
-/
import Derived.Test.YtpdhoancokljoaaChecked
import GoSem.Claim
import GoSem.ClaimJoined
import GoSem.ClaimMapViews
import Derived.JoinedTies
import Derived.KernelRfl
namespace Go.Proofs.Ytpdhoancokljoaa
/- THE CELL 'sum', in the pinned program and in every row, IS THE sha256 OF THE DUMP (.gsa) THAT YtpdhoancokljoaaProg.lean LOADS. Nothing in Lean hashes anything: it is a label: what it is worth is what the hold of that sum in a sandbox is worth. -/
noncomputable def Try.pinned : Pinned := { name := "ytpdhoancokljoaa", sum := "6f85c865e7f488c00d643993d44dd75f791fc3892f8f0b0a5d6de8c0620d3b08", checked := Try.checked }
namespace Rows
def none {H : Type} : Left H := { results := [], args := [] }

/-- 'laws.FnExactConstants': WHATEVER THE INPUT: true; the input reads as it did. -/
def fnExactConstantsSpec : ChangeSpec := { name := "fnExactConstants", fn := fun _ => fun
  | [] => { results := [.lit (.bool true)], args := [] }
  | _ => none }
def fnExactConstantsRow : OpenClaim := { program := "ytpdhoancokljoaa", sum := "6f85c865e7f488c00d643993d44dd75f791fc3892f8f0b0a5d6de8c0620d3b08", func := "loop.example/g01166/laws.FnExactConstants", spec := "fnExactConstants", apart := false }
def FnExactConstantsSaid : Prop := fnExactConstantsRow.holds Try.pinned (OpenSpec.ofChange fnExactConstantsSpec)

/-- ITS FALSE NEIGHBOUR: 'it returns false'. Refute it at one input. -/
def fnExactConstantsWrong : ChangeSpec := { name := "fnExactConstants", fn := fun _ => fun
  | [] => { results := [.lit (.bool false)], args := [] }
  | _ => none }
def FnExactConstantsWrongFalsely : Prop := fnExactConstantsRow.holds Try.pinned (OpenSpec.ofChange fnExactConstantsWrong)

/-- 'laws.FnExactLessString': WHATEVER THE INPUT: true; the input reads as it did. -/
def fnExactLessStringSpec : ChangeSpec := { name := "fnExactLessString", fn := fun _ => fun
  | [d1, d2] => { results := [.lit (.bool true)], args := [d1, d2] }
  | _ => none }
def fnExactLessStringRow : OpenClaim := { program := "ytpdhoancokljoaa", sum := "6f85c865e7f488c00d643993d44dd75f791fc3892f8f0b0a5d6de8c0620d3b08", func := "loop.example/g01166/laws.FnExactLessString", spec := "fnExactLessString", apart := false }
def FnExactLessStringSaid : Prop := fnExactLessStringRow.holds Try.pinned (OpenSpec.ofChange fnExactLessStringSpec)

/-- ITS FALSE NEIGHBOUR: 'it returns false'. Refute it at one input. -/
def fnExactLessStringWrong : ChangeSpec := { name := "fnExactLessString", fn := fun _ => fun
  | [d1, d2] => { results := [.lit (.bool false)], args := [d1, d2] }
  | _ => none }
def FnExactLessStringWrongFalsely : Prop := fnExactLessStringRow.holds Try.pinned (OpenSpec.ofChange fnExactLessStringWrong)

/-- 'laws.FnExactChecksum': WHATEVER THE INPUT: true; the input reads as it did. -/
def fnExactChecksumSpec : ChangeSpec := { name := "fnExactChecksum", fn := fun _ => fun
  | [d] => { results := [.lit (.bool true)], args := [d] }
  | _ => none }
def fnExactChecksumRow : OpenClaim := { program := "ytpdhoancokljoaa", sum := "6f85c865e7f488c00d643993d44dd75f791fc3892f8f0b0a5d6de8c0620d3b08", func := "loop.example/g01166/laws.FnExactChecksum", spec := "fnExactChecksum", apart := false }
def FnExactChecksumSaid : Prop := fnExactChecksumRow.holds Try.pinned (OpenSpec.ofChange fnExactChecksumSpec)

/-- ITS FALSE NEIGHBOUR: 'it returns false'. Refute it at one input. -/
def fnExactChecksumWrong : ChangeSpec := { name := "fnExactChecksum", fn := fun _ => fun
  | [d] => { results := [.lit (.bool false)], args := [d] }
  | _ => none }
def FnExactChecksumWrongFalsely : Prop := fnExactChecksumRow.holds Try.pinned (OpenSpec.ofChange fnExactChecksumWrong)

/-- 'laws.FnExactCountSights': WHATEVER THE INPUT: true; the input reads as it did. -/
def fnExactCountSightsSpec : ChangeSpec := { name := "fnExactCountSights", fn := fun _ => fun
  | [d1, d2] => { results := [.lit (.bool true)], args := [d1, d2] }
  | _ => none }
def fnExactCountSightsRow : OpenClaim := { program := "ytpdhoancokljoaa", sum := "6f85c865e7f488c00d643993d44dd75f791fc3892f8f0b0a5d6de8c0620d3b08", func := "loop.example/g01166/laws.FnExactCountSights", spec := "fnExactCountSights", apart := false }
def FnExactCountSightsSaid : Prop := fnExactCountSightsRow.holds Try.pinned (OpenSpec.ofChange fnExactCountSightsSpec)

/-- ITS FALSE NEIGHBOUR: 'it returns false'. Refute it at one input. -/
def fnExactCountSightsWrong : ChangeSpec := { name := "fnExactCountSights", fn := fun _ => fun
  | [d1, d2] => { results := [.lit (.bool false)], args := [d1, d2] }
  | _ => none }
def FnExactCountSightsWrongFalsely : Prop := fnExactCountSightsRow.holds Try.pinned (OpenSpec.ofChange fnExactCountSightsWrong)

/-- 'laws.FnExactCountStairs': WHATEVER THE INPUT: true; the input reads as it did. -/
def fnExactCountStairsSpec : ChangeSpec := { name := "fnExactCountStairs", fn := fun _ => fun
  | [d1, d2, d3] => { results := [.lit (.bool true)], args := [d1, d2, d3] }
  | _ => none }
def fnExactCountStairsRow : OpenClaim := { program := "ytpdhoancokljoaa", sum := "6f85c865e7f488c00d643993d44dd75f791fc3892f8f0b0a5d6de8c0620d3b08", func := "loop.example/g01166/laws.FnExactCountStairs", spec := "fnExactCountStairs", apart := false }
def FnExactCountStairsSaid : Prop := fnExactCountStairsRow.holds Try.pinned (OpenSpec.ofChange fnExactCountStairsSpec)

/-- ITS FALSE NEIGHBOUR: 'it returns false'. Refute it at one input. -/
def fnExactCountStairsWrong : ChangeSpec := { name := "fnExactCountStairs", fn := fun _ => fun
  | [d1, d2, d3] => { results := [.lit (.bool false)], args := [d1, d2, d3] }
  | _ => none }
def FnExactCountStairsWrongFalsely : Prop := fnExactCountStairsRow.holds Try.pinned (OpenSpec.ofChange fnExactCountStairsWrong)

/-- 'laws.FnExactBoxPiece': WHATEVER THE INPUT: true; the input reads as it did. -/
def fnExactBoxPieceSpec : ChangeSpec := { name := "fnExactBoxPiece", fn := fun _ => fun
  | [d1, d2, d3] => { results := [.lit (.bool true)], args := [d1, d2, d3] }
  | _ => none }
def fnExactBoxPieceRow : OpenClaim := { program := "ytpdhoancokljoaa", sum := "6f85c865e7f488c00d643993d44dd75f791fc3892f8f0b0a5d6de8c0620d3b08", func := "loop.example/g01166/laws.FnExactBoxPiece", spec := "fnExactBoxPiece", apart := false }
def FnExactBoxPieceSaid : Prop := fnExactBoxPieceRow.holds Try.pinned (OpenSpec.ofChange fnExactBoxPieceSpec)

/-- ITS FALSE NEIGHBOUR: 'it returns false'. Refute it at one input. -/
def fnExactBoxPieceWrong : ChangeSpec := { name := "fnExactBoxPiece", fn := fun _ => fun
  | [d1, d2, d3] => { results := [.lit (.bool false)], args := [d1, d2, d3] }
  | _ => none }
def FnExactBoxPieceWrongFalsely : Prop := fnExactBoxPieceRow.holds Try.pinned (OpenSpec.ofChange fnExactBoxPieceWrong)

/-- 'laws.FnExactTurnBack': WHATEVER THE INPUT: true; the input reads as it did. -/
def fnExactTurnBackSpec : ChangeSpec := { name := "fnExactTurnBack", fn := fun _ => fun
  | [d] => { results := [.lit (.bool true)], args := [d] }
  | _ => none }
def fnExactTurnBackRow : OpenClaim := { program := "ytpdhoancokljoaa", sum := "6f85c865e7f488c00d643993d44dd75f791fc3892f8f0b0a5d6de8c0620d3b08", func := "loop.example/g01166/laws.FnExactTurnBack", spec := "fnExactTurnBack", apart := false }
def FnExactTurnBackSaid : Prop := fnExactTurnBackRow.holds Try.pinned (OpenSpec.ofChange fnExactTurnBackSpec)

/-- ITS FALSE NEIGHBOUR: 'it returns false'. Refute it at one input. -/
def fnExactTurnBackWrong : ChangeSpec := { name := "fnExactTurnBack", fn := fun _ => fun
  | [d] => { results := [.lit (.bool false)], args := [d] }
  | _ => none }
def FnExactTurnBackWrongFalsely : Prop := fnExactTurnBackRow.holds Try.pinned (OpenSpec.ofChange fnExactTurnBackWrong)

/-- 'laws.FnExactTurnBehind': WHATEVER THE INPUT: true; the input reads as it did. -/
def fnExactTurnBehindSpec : ChangeSpec := { name := "fnExactTurnBehind", fn := fun _ => fun
  | [d1, d2] => { results := [.lit (.bool true)], args := [d1, d2] }
  | _ => none }
def fnExactTurnBehindRow : OpenClaim := { program := "ytpdhoancokljoaa", sum := "6f85c865e7f488c00d643993d44dd75f791fc3892f8f0b0a5d6de8c0620d3b08", func := "loop.example/g01166/laws.FnExactTurnBehind", spec := "fnExactTurnBehind", apart := false }
def FnExactTurnBehindSaid : Prop := fnExactTurnBehindRow.holds Try.pinned (OpenSpec.ofChange fnExactTurnBehindSpec)

/-- ITS FALSE NEIGHBOUR: 'it returns false'. Refute it at one input. -/
def fnExactTurnBehindWrong : ChangeSpec := { name := "fnExactTurnBehind", fn := fun _ => fun
  | [d1, d2] => { results := [.lit (.bool false)], args := [d1, d2] }
  | _ => none }
def FnExactTurnBehindWrongFalsely : Prop := fnExactTurnBehindRow.holds Try.pinned (OpenSpec.ofChange fnExactTurnBehindWrong)

/-- 'laws.FnExactTurnOrder': WHATEVER THE INPUT: true; the input reads as it did. -/
def fnExactTurnOrderSpec : ChangeSpec := { name := "fnExactTurnOrder", fn := fun _ => fun
  | [d] => { results := [.lit (.bool true)], args := [d] }
  | _ => none }
def fnExactTurnOrderRow : OpenClaim := { program := "ytpdhoancokljoaa", sum := "6f85c865e7f488c00d643993d44dd75f791fc3892f8f0b0a5d6de8c0620d3b08", func := "loop.example/g01166/laws.FnExactTurnOrder", spec := "fnExactTurnOrder", apart := false }
def FnExactTurnOrderSaid : Prop := fnExactTurnOrderRow.holds Try.pinned (OpenSpec.ofChange fnExactTurnOrderSpec)

/-- ITS FALSE NEIGHBOUR: 'it returns false'. Refute it at one input. -/
def fnExactTurnOrderWrong : ChangeSpec := { name := "fnExactTurnOrder", fn := fun _ => fun
  | [d] => { results := [.lit (.bool false)], args := [d] }
  | _ => none }
def FnExactTurnOrderWrongFalsely : Prop := fnExactTurnOrderRow.holds Try.pinned (OpenSpec.ofChange fnExactTurnOrderWrong)

/-- 'laws.FnExactEmptyHeap': WHATEVER THE INPUT: true; the input reads as it did. -/
def fnExactEmptyHeapSpec : ChangeSpec := { name := "fnExactEmptyHeap", fn := fun _ => fun
  | [d1, d2, d3] => { results := [.lit (.bool true)], args := [d1, d2, d3] }
  | _ => none }
def fnExactEmptyHeapRow : OpenClaim := { program := "ytpdhoancokljoaa", sum := "6f85c865e7f488c00d643993d44dd75f791fc3892f8f0b0a5d6de8c0620d3b08", func := "loop.example/g01166/laws.FnExactEmptyHeap", spec := "fnExactEmptyHeap", apart := false }
def FnExactEmptyHeapSaid : Prop := fnExactEmptyHeapRow.holds Try.pinned (OpenSpec.ofChange fnExactEmptyHeapSpec)

/-- ITS FALSE NEIGHBOUR: 'it returns false'. Refute it at one input. -/
def fnExactEmptyHeapWrong : ChangeSpec := { name := "fnExactEmptyHeap", fn := fun _ => fun
  | [d1, d2, d3] => { results := [.lit (.bool false)], args := [d1, d2, d3] }
  | _ => none }
def FnExactEmptyHeapWrongFalsely : Prop := fnExactEmptyHeapRow.holds Try.pinned (OpenSpec.ofChange fnExactEmptyHeapWrong)

/-- 'laws.FnExactFullHeap': WHATEVER THE INPUT: true; the input reads as it did. -/
def fnExactFullHeapSpec : ChangeSpec := { name := "fnExactFullHeap", fn := fun _ => fun
  | [d1, d2, d3] => { results := [.lit (.bool true)], args := [d1, d2, d3] }
  | _ => none }
def fnExactFullHeapRow : OpenClaim := { program := "ytpdhoancokljoaa", sum := "6f85c865e7f488c00d643993d44dd75f791fc3892f8f0b0a5d6de8c0620d3b08", func := "loop.example/g01166/laws.FnExactFullHeap", spec := "fnExactFullHeap", apart := false }
def FnExactFullHeapSaid : Prop := fnExactFullHeapRow.holds Try.pinned (OpenSpec.ofChange fnExactFullHeapSpec)

/-- ITS FALSE NEIGHBOUR: 'it returns false'. Refute it at one input. -/
def fnExactFullHeapWrong : ChangeSpec := { name := "fnExactFullHeap", fn := fun _ => fun
  | [d1, d2, d3] => { results := [.lit (.bool false)], args := [d1, d2, d3] }
  | _ => none }
def FnExactFullHeapWrongFalsely : Prop := fnExactFullHeapRow.holds Try.pinned (OpenSpec.ofChange fnExactFullHeapWrong)

/-- 'laws.FnExactIsHeap': WHATEVER THE INPUT: true; the input reads as it did. -/
def fnExactIsHeapSpec : ChangeSpec := { name := "fnExactIsHeap", fn := fun _ => fun
  | [d] => { results := [.lit (.bool true)], args := [d] }
  | _ => none }
def fnExactIsHeapRow : OpenClaim := { program := "ytpdhoancokljoaa", sum := "6f85c865e7f488c00d643993d44dd75f791fc3892f8f0b0a5d6de8c0620d3b08", func := "loop.example/g01166/laws.FnExactIsHeap", spec := "fnExactIsHeap", apart := false }
def FnExactIsHeapSaid : Prop := fnExactIsHeapRow.holds Try.pinned (OpenSpec.ofChange fnExactIsHeapSpec)

/-- ITS FALSE NEIGHBOUR: 'it returns false'. Refute it at one input. -/
def fnExactIsHeapWrong : ChangeSpec := { name := "fnExactIsHeap", fn := fun _ => fun
  | [d] => { results := [.lit (.bool false)], args := [d] }
  | _ => none }
def FnExactIsHeapWrongFalsely : Prop := fnExactIsHeapRow.holds Try.pinned (OpenSpec.ofChange fnExactIsHeapWrong)

/- THE SECOND FORM. 'bulk': how many values and letters a reading holds, each counted each time it is reached (what is shared counts as often as it is met; a slice's spare places count too). A statement '..UptoSaid' is the law's where the arguments, and the package variables that the reading takes, are together of bulk at most 1048576: NARROWER than '..Said'. Prove '..Said' where nothing that the law and all that it calls make is longer than what came in: it says more and counts as full. Else prove '..UptoSaid'. A law counts once. -/
mutual
def uptoBulk {H : Type} : DataW H → Nat
  | .lit (.string bytes) => bytes.length + 1
  | .lit _ => 1
  | .nil => 1
  | .ptr d => uptoBulk d + 1
  | .slice elems spare => uptoBulkAll elems + uptoBulkAll spare + 1
  | .agg parts => uptoBulkAll parts + 1
  | .iface _ d => uptoBulk d + 1
  | .map entries => uptoBulkEntries entries + 1
  | .held _ => 1
def uptoBulkAll {H : Type} : List (DataW H) → Nat
  | [] => 0
  | d :: r => uptoBulk d + uptoBulkAll r
def uptoBulkEntries {H : Type} : List (Lit × DataW H) → Nat
  | [] => 0
  | x :: r => uptoBulkEntry x + uptoBulkEntries r
def uptoBulkEntry {H : Type} : Lit × DataW H → Nat
  | (.string bytes, d) => bytes.length + uptoBulk d + 1
  | (_, d) => uptoBulk d + 1
 end
def uptoSmall : (H : Type) → List (DataW H) → Bool := fun _ ds => decide (uptoBulkAll ds ≤ 1048576)
def OpenSpec.upto (s : _root_.Go.ChangeSpec) : _root_.Go.OpenSpec := { _root_.Go.OpenSpec.ofChange s with cond := some uptoSmall }

/-- 'laws.FnExactConstants', WHERE WHAT IT READS IS OF BULK AT MOST 1048576: true; the input reads as it did. -/
def fnExactConstantsUptoRow : OpenClaim := { program := "ytpdhoancokljoaa", sum := "6f85c865e7f488c00d643993d44dd75f791fc3892f8f0b0a5d6de8c0620d3b08", func := "loop.example/g01166/laws.FnExactConstants", spec := "fnExactConstants", apart := false, narrowed := true }
def FnExactConstantsUptoSaid : Prop := fnExactConstantsUptoRow.holds Try.pinned (OpenSpec.upto fnExactConstantsSpec)

/-- 'laws.FnExactLessString', WHERE WHAT IT READS IS OF BULK AT MOST 1048576: true; the input reads as it did. -/
def fnExactLessStringUptoRow : OpenClaim := { program := "ytpdhoancokljoaa", sum := "6f85c865e7f488c00d643993d44dd75f791fc3892f8f0b0a5d6de8c0620d3b08", func := "loop.example/g01166/laws.FnExactLessString", spec := "fnExactLessString", apart := false, narrowed := true }
def FnExactLessStringUptoSaid : Prop := fnExactLessStringUptoRow.holds Try.pinned (OpenSpec.upto fnExactLessStringSpec)

/-- 'laws.FnExactChecksum', WHERE WHAT IT READS IS OF BULK AT MOST 1048576: true; the input reads as it did. -/
def fnExactChecksumUptoRow : OpenClaim := { program := "ytpdhoancokljoaa", sum := "6f85c865e7f488c00d643993d44dd75f791fc3892f8f0b0a5d6de8c0620d3b08", func := "loop.example/g01166/laws.FnExactChecksum", spec := "fnExactChecksum", apart := false, narrowed := true }
def FnExactChecksumUptoSaid : Prop := fnExactChecksumUptoRow.holds Try.pinned (OpenSpec.upto fnExactChecksumSpec)

/-- 'laws.FnExactCountSights', WHERE WHAT IT READS IS OF BULK AT MOST 1048576: true; the input reads as it did. -/
def fnExactCountSightsUptoRow : OpenClaim := { program := "ytpdhoancokljoaa", sum := "6f85c865e7f488c00d643993d44dd75f791fc3892f8f0b0a5d6de8c0620d3b08", func := "loop.example/g01166/laws.FnExactCountSights", spec := "fnExactCountSights", apart := false, narrowed := true }
def FnExactCountSightsUptoSaid : Prop := fnExactCountSightsUptoRow.holds Try.pinned (OpenSpec.upto fnExactCountSightsSpec)

/-- 'laws.FnExactCountStairs', WHERE WHAT IT READS IS OF BULK AT MOST 1048576: true; the input reads as it did. -/
def fnExactCountStairsUptoRow : OpenClaim := { program := "ytpdhoancokljoaa", sum := "6f85c865e7f488c00d643993d44dd75f791fc3892f8f0b0a5d6de8c0620d3b08", func := "loop.example/g01166/laws.FnExactCountStairs", spec := "fnExactCountStairs", apart := false, narrowed := true }
def FnExactCountStairsUptoSaid : Prop := fnExactCountStairsUptoRow.holds Try.pinned (OpenSpec.upto fnExactCountStairsSpec)

/-- 'laws.FnExactBoxPiece', WHERE WHAT IT READS IS OF BULK AT MOST 1048576: true; the input reads as it did. -/
def fnExactBoxPieceUptoRow : OpenClaim := { program := "ytpdhoancokljoaa", sum := "6f85c865e7f488c00d643993d44dd75f791fc3892f8f0b0a5d6de8c0620d3b08", func := "loop.example/g01166/laws.FnExactBoxPiece", spec := "fnExactBoxPiece", apart := false, narrowed := true }
def FnExactBoxPieceUptoSaid : Prop := fnExactBoxPieceUptoRow.holds Try.pinned (OpenSpec.upto fnExactBoxPieceSpec)

/-- 'laws.FnExactTurnBack', WHERE WHAT IT READS IS OF BULK AT MOST 1048576: true; the input reads as it did. -/
def fnExactTurnBackUptoRow : OpenClaim := { program := "ytpdhoancokljoaa", sum := "6f85c865e7f488c00d643993d44dd75f791fc3892f8f0b0a5d6de8c0620d3b08", func := "loop.example/g01166/laws.FnExactTurnBack", spec := "fnExactTurnBack", apart := false, narrowed := true }
def FnExactTurnBackUptoSaid : Prop := fnExactTurnBackUptoRow.holds Try.pinned (OpenSpec.upto fnExactTurnBackSpec)

/-- 'laws.FnExactTurnBehind', WHERE WHAT IT READS IS OF BULK AT MOST 1048576: true; the input reads as it did. -/
def fnExactTurnBehindUptoRow : OpenClaim := { program := "ytpdhoancokljoaa", sum := "6f85c865e7f488c00d643993d44dd75f791fc3892f8f0b0a5d6de8c0620d3b08", func := "loop.example/g01166/laws.FnExactTurnBehind", spec := "fnExactTurnBehind", apart := false, narrowed := true }
def FnExactTurnBehindUptoSaid : Prop := fnExactTurnBehindUptoRow.holds Try.pinned (OpenSpec.upto fnExactTurnBehindSpec)

/-- 'laws.FnExactTurnOrder', WHERE WHAT IT READS IS OF BULK AT MOST 1048576: true; the input reads as it did. -/
def fnExactTurnOrderUptoRow : OpenClaim := { program := "ytpdhoancokljoaa", sum := "6f85c865e7f488c00d643993d44dd75f791fc3892f8f0b0a5d6de8c0620d3b08", func := "loop.example/g01166/laws.FnExactTurnOrder", spec := "fnExactTurnOrder", apart := false, narrowed := true }
def FnExactTurnOrderUptoSaid : Prop := fnExactTurnOrderUptoRow.holds Try.pinned (OpenSpec.upto fnExactTurnOrderSpec)

/-- 'laws.FnExactEmptyHeap', WHERE WHAT IT READS IS OF BULK AT MOST 1048576: true; the input reads as it did. -/
def fnExactEmptyHeapUptoRow : OpenClaim := { program := "ytpdhoancokljoaa", sum := "6f85c865e7f488c00d643993d44dd75f791fc3892f8f0b0a5d6de8c0620d3b08", func := "loop.example/g01166/laws.FnExactEmptyHeap", spec := "fnExactEmptyHeap", apart := false, narrowed := true }
def FnExactEmptyHeapUptoSaid : Prop := fnExactEmptyHeapUptoRow.holds Try.pinned (OpenSpec.upto fnExactEmptyHeapSpec)

/-- 'laws.FnExactFullHeap', WHERE WHAT IT READS IS OF BULK AT MOST 1048576: true; the input reads as it did. -/
def fnExactFullHeapUptoRow : OpenClaim := { program := "ytpdhoancokljoaa", sum := "6f85c865e7f488c00d643993d44dd75f791fc3892f8f0b0a5d6de8c0620d3b08", func := "loop.example/g01166/laws.FnExactFullHeap", spec := "fnExactFullHeap", apart := false, narrowed := true }
def FnExactFullHeapUptoSaid : Prop := fnExactFullHeapUptoRow.holds Try.pinned (OpenSpec.upto fnExactFullHeapSpec)

/-- 'laws.FnExactIsHeap', WHERE WHAT IT READS IS OF BULK AT MOST 1048576: true; the input reads as it did. -/
def fnExactIsHeapUptoRow : OpenClaim := { program := "ytpdhoancokljoaa", sum := "6f85c865e7f488c00d643993d44dd75f791fc3892f8f0b0a5d6de8c0620d3b08", func := "loop.example/g01166/laws.FnExactIsHeap", spec := "fnExactIsHeap", apart := false, narrowed := true }
def FnExactIsHeapUptoSaid : Prop := fnExactIsHeapUptoRow.holds Try.pinned (OpenSpec.upto fnExactIsHeapSpec)

end Rows
end Go.Proofs.Ytpdhoancokljoaa
