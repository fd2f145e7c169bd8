/-
  No cell of these rows narrows 'for every input' (looked for: loops, veiled, ifaces, maps, wideKeys, modest, calm, conditions, laid).
  DERIVED. THE GIVEN ROWS OF THIS SEAT. 12 by the template 'for every input the law returns true; each argument reads behind the call as it read before'; 0 by the template 'total and deterministic' (their statements: YtenkiofddpjidaaTotals.lean).
  GIVEN WITH THE SEED: the statements are not yours to turn. If you find one false, say at which input.
  Laid BY PROGRAM, IN A SANDBOX (cutbox-rows.mjs): the forced cells as the released guide's own fill.sh prints them over the translation 41241a7835f143c9… (all of the seat's roots in one cut). By AI agents, Wed Nov 11 2026. No macro, syntax, notation, axiom, sorry.
-/
import Derived.Test.YtenkiofddpjidaaChecked
import GoSem.Claim
import GoSem.ClaimJoined
import GoSem.ClaimMapViews
import Derived.JoinedTies
import Derived.KernelRfl
namespace Go.Proofs.Ytenkiofddpjidaa
/- THE CELL 'sum', in the pinned program and in every row, IS THE sha256 OF THE DUMP (.gsa) THAT YtenkiofddpjidaaProg.lean LOADS. Nothing in Lean hashes anything: it is a label: what it is worth is what the hold of that sum in a sandbox is worth. -/
noncomputable def Try.pinned : Pinned := { name := "ytenkiofddpjidaa", sum := "41241a7835f143c92ce7102524f8fffa666fcfdef15afce144934ff1806cfb4d", checked := Try.checked }
namespace Rows
def none {H : Type} : Left H := { results := [], args := [] }

/-- 'laws.FnExactHasCube': WHATEVER THE INPUT: true; the input reads as it did. -/
def fnExactHasCubeSpec : ChangeSpec := { name := "fnExactHasCube", fn := fun _ => fun
  | [d1, d2] => { results := [.lit (.bool true)], args := [d1, d2] }
  | _ => none }
def fnExactHasCubeRow : OpenClaim := { program := "ytenkiofddpjidaa", sum := "41241a7835f143c92ce7102524f8fffa666fcfdef15afce144934ff1806cfb4d", func := "loop.example/g01166/laws.FnExactHasCube", spec := "fnExactHasCube", apart := false }
def FnExactHasCubeSaid : Prop := fnExactHasCubeRow.holds Try.pinned (OpenSpec.ofChange fnExactHasCubeSpec)

/-- ITS FALSE NEIGHBOUR: 'it returns false'. Refute it at one input. -/
def fnExactHasCubeWrong : ChangeSpec := { name := "fnExactHasCube", fn := fun _ => fun
  | [d1, d2] => { results := [.lit (.bool false)], args := [d1, d2] }
  | _ => none }
def FnExactHasCubeWrongFalsely : Prop := fnExactHasCubeRow.holds Try.pinned (OpenSpec.ofChange fnExactHasCubeWrong)

/-- 'laws.FnExactPutCube': WHATEVER THE INPUT: true; the input reads as it did. -/
def fnExactPutCubeSpec : ChangeSpec := { name := "fnExactPutCube", fn := fun _ => fun
  | [d1, d2] => { results := [.lit (.bool true)], args := [d1, d2] }
  | _ => none }
def fnExactPutCubeRow : OpenClaim := { program := "ytenkiofddpjidaa", sum := "41241a7835f143c92ce7102524f8fffa666fcfdef15afce144934ff1806cfb4d", func := "loop.example/g01166/laws.FnExactPutCube", spec := "fnExactPutCube", apart := false }
def FnExactPutCubeSaid : Prop := fnExactPutCubeRow.holds Try.pinned (OpenSpec.ofChange fnExactPutCubeSpec)

/-- ITS FALSE NEIGHBOUR: 'it returns false'. Refute it at one input. -/
def fnExactPutCubeWrong : ChangeSpec := { name := "fnExactPutCube", fn := fun _ => fun
  | [d1, d2] => { results := [.lit (.bool false)], args := [d1, d2] }
  | _ => none }
def FnExactPutCubeWrongFalsely : Prop := fnExactPutCubeRow.holds Try.pinned (OpenSpec.ofChange fnExactPutCubeWrong)

/-- 'laws.FnExactTakeCube': WHATEVER THE INPUT: true; the input reads as it did. -/
def fnExactTakeCubeSpec : ChangeSpec := { name := "fnExactTakeCube", fn := fun _ => fun
  | [d1, d2] => { results := [.lit (.bool true)], args := [d1, d2] }
  | _ => none }
def fnExactTakeCubeRow : OpenClaim := { program := "ytenkiofddpjidaa", sum := "41241a7835f143c92ce7102524f8fffa666fcfdef15afce144934ff1806cfb4d", func := "loop.example/g01166/laws.FnExactTakeCube", spec := "fnExactTakeCube", apart := false }
def FnExactTakeCubeSaid : Prop := fnExactTakeCubeRow.holds Try.pinned (OpenSpec.ofChange fnExactTakeCubeSpec)

/-- ITS FALSE NEIGHBOUR: 'it returns false'. Refute it at one input. -/
def fnExactTakeCubeWrong : ChangeSpec := { name := "fnExactTakeCube", fn := fun _ => fun
  | [d1, d2] => { results := [.lit (.bool false)], args := [d1, d2] }
  | _ => none }
def FnExactTakeCubeWrongFalsely : Prop := fnExactTakeCubeRow.holds Try.pinned (OpenSpec.ofChange fnExactTakeCubeWrong)

/-- 'laws.FnExactNearCubes': WHATEVER THE INPUT: true; the input reads as it did. -/
def fnExactNearCubesSpec : ChangeSpec := { name := "fnExactNearCubes", fn := fun _ => fun
  | [d1, d2] => { results := [.lit (.bool true)], args := [d1, d2] }
  | _ => none }
def fnExactNearCubesRow : OpenClaim := { program := "ytenkiofddpjidaa", sum := "41241a7835f143c92ce7102524f8fffa666fcfdef15afce144934ff1806cfb4d", func := "loop.example/g01166/laws.FnExactNearCubes", spec := "fnExactNearCubes", apart := false }
def FnExactNearCubesSaid : Prop := fnExactNearCubesRow.holds Try.pinned (OpenSpec.ofChange fnExactNearCubesSpec)

/-- ITS FALSE NEIGHBOUR: 'it returns false'. Refute it at one input. -/
def fnExactNearCubesWrong : ChangeSpec := { name := "fnExactNearCubes", fn := fun _ => fun
  | [d1, d2] => { results := [.lit (.bool false)], args := [d1, d2] }
  | _ => none }
def FnExactNearCubesWrongFalsely : Prop := fnExactNearCubesRow.holds Try.pinned (OpenSpec.ofChange fnExactNearCubesWrong)

/-- 'laws.FnExactOtherCells': WHATEVER THE INPUT: true; the input reads as it did. -/
def fnExactOtherCellsSpec : ChangeSpec := { name := "fnExactOtherCells", fn := fun _ => fun
  | [d] => { results := [.lit (.bool true)], args := [d] }
  | _ => none }
def fnExactOtherCellsRow : OpenClaim := { program := "ytenkiofddpjidaa", sum := "41241a7835f143c92ce7102524f8fffa666fcfdef15afce144934ff1806cfb4d", func := "loop.example/g01166/laws.FnExactOtherCells", spec := "fnExactOtherCells", apart := false }
def FnExactOtherCellsSaid : Prop := fnExactOtherCellsRow.holds Try.pinned (OpenSpec.ofChange fnExactOtherCellsSpec)

/-- ITS FALSE NEIGHBOUR: 'it returns false'. Refute it at one input. -/
def fnExactOtherCellsWrong : ChangeSpec := { name := "fnExactOtherCells", fn := fun _ => fun
  | [d] => { results := [.lit (.bool false)], args := [d] }
  | _ => none }
def FnExactOtherCellsWrongFalsely : Prop := fnExactOtherCellsRow.holds Try.pinned (OpenSpec.ofChange fnExactOtherCellsWrong)

/-- 'laws.FnExactJoinHeaps': WHATEVER THE INPUT: true; the input reads as it did. -/
def fnExactJoinHeapsSpec : ChangeSpec := { name := "fnExactJoinHeaps", fn := fun _ => fun
  | [d1, d2] => { results := [.lit (.bool true)], args := [d1, d2] }
  | _ => none }
def fnExactJoinHeapsRow : OpenClaim := { program := "ytenkiofddpjidaa", sum := "41241a7835f143c92ce7102524f8fffa666fcfdef15afce144934ff1806cfb4d", func := "loop.example/g01166/laws.FnExactJoinHeaps", spec := "fnExactJoinHeaps", apart := false }
def FnExactJoinHeapsSaid : Prop := fnExactJoinHeapsRow.holds Try.pinned (OpenSpec.ofChange fnExactJoinHeapsSpec)

/-- ITS FALSE NEIGHBOUR: 'it returns false'. Refute it at one input. -/
def fnExactJoinHeapsWrong : ChangeSpec := { name := "fnExactJoinHeaps", fn := fun _ => fun
  | [d1, d2] => { results := [.lit (.bool false)], args := [d1, d2] }
  | _ => none }
def FnExactJoinHeapsWrongFalsely : Prop := fnExactJoinHeapsRow.holds Try.pinned (OpenSpec.ofChange fnExactJoinHeapsWrong)

/-- 'laws.FnExactCommonCubes': WHATEVER THE INPUT: true; the input reads as it did. -/
def fnExactCommonCubesSpec : ChangeSpec := { name := "fnExactCommonCubes", fn := fun _ => fun
  | [d1, d2] => { results := [.lit (.bool true)], args := [d1, d2] }
  | _ => none }
def fnExactCommonCubesRow : OpenClaim := { program := "ytenkiofddpjidaa", sum := "41241a7835f143c92ce7102524f8fffa666fcfdef15afce144934ff1806cfb4d", func := "loop.example/g01166/laws.FnExactCommonCubes", spec := "fnExactCommonCubes", apart := false }
def FnExactCommonCubesSaid : Prop := fnExactCommonCubesRow.holds Try.pinned (OpenSpec.ofChange fnExactCommonCubesSpec)

/-- ITS FALSE NEIGHBOUR: 'it returns false'. Refute it at one input. -/
def fnExactCommonCubesWrong : ChangeSpec := { name := "fnExactCommonCubes", fn := fun _ => fun
  | [d1, d2] => { results := [.lit (.bool false)], args := [d1, d2] }
  | _ => none }
def FnExactCommonCubesWrongFalsely : Prop := fnExactCommonCubesRow.holds Try.pinned (OpenSpec.ofChange fnExactCommonCubesWrong)

/-- 'laws.FnExactLooseBottom': WHATEVER THE INPUT: true; the input reads as it did. -/
def fnExactLooseBottomSpec : ChangeSpec := { name := "fnExactLooseBottom", fn := fun _ => fun
  | [d] => { results := [.lit (.bool true)], args := [d] }
  | _ => none }
def fnExactLooseBottomRow : OpenClaim := { program := "ytenkiofddpjidaa", sum := "41241a7835f143c92ce7102524f8fffa666fcfdef15afce144934ff1806cfb4d", func := "loop.example/g01166/laws.FnExactLooseBottom", spec := "fnExactLooseBottom", apart := false }
def FnExactLooseBottomSaid : Prop := fnExactLooseBottomRow.holds Try.pinned (OpenSpec.ofChange fnExactLooseBottomSpec)

/-- ITS FALSE NEIGHBOUR: 'it returns false'. Refute it at one input. -/
def fnExactLooseBottomWrong : ChangeSpec := { name := "fnExactLooseBottom", fn := fun _ => fun
  | [d] => { results := [.lit (.bool false)], args := [d] }
  | _ => none }
def FnExactLooseBottomWrongFalsely : Prop := fnExactLooseBottomRow.holds Try.pinned (OpenSpec.ofChange fnExactLooseBottomWrong)

/-- 'laws.FnExactFreeParity': WHATEVER THE INPUT: true; the input reads as it did. -/
def fnExactFreeParitySpec : ChangeSpec := { name := "fnExactFreeParity", fn := fun _ => fun
  | [d] => { results := [.lit (.bool true)], args := [d] }
  | _ => none }
def fnExactFreeParityRow : OpenClaim := { program := "ytenkiofddpjidaa", sum := "41241a7835f143c92ce7102524f8fffa666fcfdef15afce144934ff1806cfb4d", func := "loop.example/g01166/laws.FnExactFreeParity", spec := "fnExactFreeParity", apart := false }
def FnExactFreeParitySaid : Prop := fnExactFreeParityRow.holds Try.pinned (OpenSpec.ofChange fnExactFreeParitySpec)

/-- ITS FALSE NEIGHBOUR: 'it returns false'. Refute it at one input. -/
def fnExactFreeParityWrong : ChangeSpec := { name := "fnExactFreeParity", fn := fun _ => fun
  | [d] => { results := [.lit (.bool false)], args := [d] }
  | _ => none }
def FnExactFreeParityWrongFalsely : Prop := fnExactFreeParityRow.holds Try.pinned (OpenSpec.ofChange fnExactFreeParityWrong)

/-- 'laws.FnExactWidenHeap': WHATEVER THE INPUT: true; the input reads as it did. -/
def fnExactWidenHeapSpec : ChangeSpec := { name := "fnExactWidenHeap", fn := fun _ => fun
  | [d1, d2, d3, d4] => { results := [.lit (.bool true)], args := [d1, d2, d3, d4] }
  | _ => none }
def fnExactWidenHeapRow : OpenClaim := { program := "ytenkiofddpjidaa", sum := "41241a7835f143c92ce7102524f8fffa666fcfdef15afce144934ff1806cfb4d", func := "loop.example/g01166/laws.FnExactWidenHeap", spec := "fnExactWidenHeap", unfollowed := true, recurses := true, apart := false }
def FnExactWidenHeapSaid : Prop := fnExactWidenHeapRow.holds Try.pinned (OpenSpec.ofChange fnExactWidenHeapSpec)

/-- ITS FALSE NEIGHBOUR: 'it returns false'. Refute it at one input. -/
def fnExactWidenHeapWrong : ChangeSpec := { name := "fnExactWidenHeap", fn := fun _ => fun
  | [d1, d2, d3, d4] => { results := [.lit (.bool false)], args := [d1, d2, d3, d4] }
  | _ => none }
def FnExactWidenHeapWrongFalsely : Prop := fnExactWidenHeapRow.holds Try.pinned (OpenSpec.ofChange fnExactWidenHeapWrong)

/-- 'laws.FnExactMirrorHeap': WHATEVER THE INPUT: true; the input reads as it did. -/
def fnExactMirrorHeapSpec : ChangeSpec := { name := "fnExactMirrorHeap", fn := fun _ => fun
  | [d1, d2] => { results := [.lit (.bool true)], args := [d1, d2] }
  | _ => none }
def fnExactMirrorHeapRow : OpenClaim := { program := "ytenkiofddpjidaa", sum := "41241a7835f143c92ce7102524f8fffa666fcfdef15afce144934ff1806cfb4d", func := "loop.example/g01166/laws.FnExactMirrorHeap", spec := "fnExactMirrorHeap", unfollowed := true, recurses := true, apart := false }
def FnExactMirrorHeapSaid : Prop := fnExactMirrorHeapRow.holds Try.pinned (OpenSpec.ofChange fnExactMirrorHeapSpec)

/-- ITS FALSE NEIGHBOUR: 'it returns false'. Refute it at one input. -/
def fnExactMirrorHeapWrong : ChangeSpec := { name := "fnExactMirrorHeap", fn := fun _ => fun
  | [d1, d2] => { results := [.lit (.bool false)], args := [d1, d2] }
  | _ => none }
def FnExactMirrorHeapWrongFalsely : Prop := fnExactMirrorHeapRow.holds Try.pinned (OpenSpec.ofChange fnExactMirrorHeapWrong)

/-- 'laws.FnExactTopHeights': WHATEVER THE INPUT: true; the input reads as it did. -/
def fnExactTopHeightsSpec : ChangeSpec := { name := "fnExactTopHeights", fn := fun _ => fun
  | [d] => { results := [.lit (.bool true)], args := [d] }
  | _ => none }
def fnExactTopHeightsRow : OpenClaim := { program := "ytenkiofddpjidaa", sum := "41241a7835f143c92ce7102524f8fffa666fcfdef15afce144934ff1806cfb4d", func := "loop.example/g01166/laws.FnExactTopHeights", spec := "fnExactTopHeights", apart := false }
def FnExactTopHeightsSaid : Prop := fnExactTopHeightsRow.holds Try.pinned (OpenSpec.ofChange fnExactTopHeightsSpec)

/-- ITS FALSE NEIGHBOUR: 'it returns false'. Refute it at one input. -/
def fnExactTopHeightsWrong : ChangeSpec := { name := "fnExactTopHeights", fn := fun _ => fun
  | [d] => { results := [.lit (.bool false)], args := [d] }
  | _ => none }
def FnExactTopHeightsWrongFalsely : Prop := fnExactTopHeightsRow.holds Try.pinned (OpenSpec.ofChange fnExactTopHeightsWrong)

/- THE SECOND FORM. 'bulk': how many values and letters a reading holds, each counted each time it is reached (what is shared counts as often as it is met; a slice's spare places count too). A statement '..UptoSaid' is the law's where the arguments, and the package variables that the reading takes, are together of bulk at most 1048576: NARROWER than '..Said'. Prove '..Said' where nothing that the law and all that it calls make is longer than what came in: it says more and counts as full. Else prove '..UptoSaid'. A law counts once. -/
mutual
def uptoBulk {H : Type} : DataW H → Nat
  | .lit (.string bytes) => bytes.length + 1
  | .lit _ => 1
  | .nil => 1
  | .ptr d => uptoBulk d + 1
  | .slice elems spare => uptoBulkAll elems + uptoBulkAll spare + 1
  | .agg parts => uptoBulkAll parts + 1
  | .iface _ d => uptoBulk d + 1
  | .map entries => uptoBulkEntries entries + 1
  | .held _ => 1
def uptoBulkAll {H : Type} : List (DataW H) → Nat
  | [] => 0
  | d :: r => uptoBulk d + uptoBulkAll r
def uptoBulkEntries {H : Type} : List (Lit × DataW H) → Nat
  | [] => 0
  | x :: r => uptoBulkEntry x + uptoBulkEntries r
def uptoBulkEntry {H : Type} : Lit × DataW H → Nat
  | (.string bytes, d) => bytes.length + uptoBulk d + 1
  | (_, d) => uptoBulk d + 1
 end
def uptoSmall : (H : Type) → List (DataW H) → Bool := fun _ ds => decide (uptoBulkAll ds ≤ 1048576)
def OpenSpec.upto (s : _root_.Go.ChangeSpec) : _root_.Go.OpenSpec := { _root_.Go.OpenSpec.ofChange s with cond := some uptoSmall }

/-- 'laws.FnExactHasCube', WHERE WHAT IT READS IS OF BULK AT MOST 1048576: true; the input reads as it did. -/
def fnExactHasCubeUptoRow : OpenClaim := { program := "ytenkiofddpjidaa", sum := "41241a7835f143c92ce7102524f8fffa666fcfdef15afce144934ff1806cfb4d", func := "loop.example/g01166/laws.FnExactHasCube", spec := "fnExactHasCube", apart := false, narrowed := true }
def FnExactHasCubeUptoSaid : Prop := fnExactHasCubeUptoRow.holds Try.pinned (OpenSpec.upto fnExactHasCubeSpec)

/-- 'laws.FnExactPutCube', WHERE WHAT IT READS IS OF BULK AT MOST 1048576: true; the input reads as it did. -/
def fnExactPutCubeUptoRow : OpenClaim := { program := "ytenkiofddpjidaa", sum := "41241a7835f143c92ce7102524f8fffa666fcfdef15afce144934ff1806cfb4d", func := "loop.example/g01166/laws.FnExactPutCube", spec := "fnExactPutCube", apart := false, narrowed := true }
def FnExactPutCubeUptoSaid : Prop := fnExactPutCubeUptoRow.holds Try.pinned (OpenSpec.upto fnExactPutCubeSpec)

/-- 'laws.FnExactTakeCube', WHERE WHAT IT READS IS OF BULK AT MOST 1048576: true; the input reads as it did. -/
def fnExactTakeCubeUptoRow : OpenClaim := { program := "ytenkiofddpjidaa", sum := "41241a7835f143c92ce7102524f8fffa666fcfdef15afce144934ff1806cfb4d", func := "loop.example/g01166/laws.FnExactTakeCube", spec := "fnExactTakeCube", apart := false, narrowed := true }
def FnExactTakeCubeUptoSaid : Prop := fnExactTakeCubeUptoRow.holds Try.pinned (OpenSpec.upto fnExactTakeCubeSpec)

/-- 'laws.FnExactNearCubes', WHERE WHAT IT READS IS OF BULK AT MOST 1048576: true; the input reads as it did. -/
def fnExactNearCubesUptoRow : OpenClaim := { program := "ytenkiofddpjidaa", sum := "41241a7835f143c92ce7102524f8fffa666fcfdef15afce144934ff1806cfb4d", func := "loop.example/g01166/laws.FnExactNearCubes", spec := "fnExactNearCubes", apart := false, narrowed := true }
def FnExactNearCubesUptoSaid : Prop := fnExactNearCubesUptoRow.holds Try.pinned (OpenSpec.upto fnExactNearCubesSpec)

/-- 'laws.FnExactOtherCells', WHERE WHAT IT READS IS OF BULK AT MOST 1048576: true; the input reads as it did. -/
def fnExactOtherCellsUptoRow : OpenClaim := { program := "ytenkiofddpjidaa", sum := "41241a7835f143c92ce7102524f8fffa666fcfdef15afce144934ff1806cfb4d", func := "loop.example/g01166/laws.FnExactOtherCells", spec := "fnExactOtherCells", apart := false, narrowed := true }
def FnExactOtherCellsUptoSaid : Prop := fnExactOtherCellsUptoRow.holds Try.pinned (OpenSpec.upto fnExactOtherCellsSpec)

/-- 'laws.FnExactJoinHeaps', WHERE WHAT IT READS IS OF BULK AT MOST 1048576: true; the input reads as it did. -/
def fnExactJoinHeapsUptoRow : OpenClaim := { program := "ytenkiofddpjidaa", sum := "41241a7835f143c92ce7102524f8fffa666fcfdef15afce144934ff1806cfb4d", func := "loop.example/g01166/laws.FnExactJoinHeaps", spec := "fnExactJoinHeaps", apart := false, narrowed := true }
def FnExactJoinHeapsUptoSaid : Prop := fnExactJoinHeapsUptoRow.holds Try.pinned (OpenSpec.upto fnExactJoinHeapsSpec)

/-- 'laws.FnExactCommonCubes', WHERE WHAT IT READS IS OF BULK AT MOST 1048576: true; the input reads as it did. -/
def fnExactCommonCubesUptoRow : OpenClaim := { program := "ytenkiofddpjidaa", sum := "41241a7835f143c92ce7102524f8fffa666fcfdef15afce144934ff1806cfb4d", func := "loop.example/g01166/laws.FnExactCommonCubes", spec := "fnExactCommonCubes", apart := false, narrowed := true }
def FnExactCommonCubesUptoSaid : Prop := fnExactCommonCubesUptoRow.holds Try.pinned (OpenSpec.upto fnExactCommonCubesSpec)

/-- 'laws.FnExactLooseBottom', WHERE WHAT IT READS IS OF BULK AT MOST 1048576: true; the input reads as it did. -/
def fnExactLooseBottomUptoRow : OpenClaim := { program := "ytenkiofddpjidaa", sum := "41241a7835f143c92ce7102524f8fffa666fcfdef15afce144934ff1806cfb4d", func := "loop.example/g01166/laws.FnExactLooseBottom", spec := "fnExactLooseBottom", apart := false, narrowed := true }
def FnExactLooseBottomUptoSaid : Prop := fnExactLooseBottomUptoRow.holds Try.pinned (OpenSpec.upto fnExactLooseBottomSpec)

/-- 'laws.FnExactFreeParity', WHERE WHAT IT READS IS OF BULK AT MOST 1048576: true; the input reads as it did. -/
def fnExactFreeParityUptoRow : OpenClaim := { program := "ytenkiofddpjidaa", sum := "41241a7835f143c92ce7102524f8fffa666fcfdef15afce144934ff1806cfb4d", func := "loop.example/g01166/laws.FnExactFreeParity", spec := "fnExactFreeParity", apart := false, narrowed := true }
def FnExactFreeParityUptoSaid : Prop := fnExactFreeParityUptoRow.holds Try.pinned (OpenSpec.upto fnExactFreeParitySpec)

/-- 'laws.FnExactWidenHeap', WHERE WHAT IT READS IS OF BULK AT MOST 1048576: true; the input reads as it did. -/
def fnExactWidenHeapUptoRow : OpenClaim := { program := "ytenkiofddpjidaa", sum := "41241a7835f143c92ce7102524f8fffa666fcfdef15afce144934ff1806cfb4d", func := "loop.example/g01166/laws.FnExactWidenHeap", spec := "fnExactWidenHeap", unfollowed := true, recurses := true, apart := false, narrowed := true }
def FnExactWidenHeapUptoSaid : Prop := fnExactWidenHeapUptoRow.holds Try.pinned (OpenSpec.upto fnExactWidenHeapSpec)

/-- 'laws.FnExactMirrorHeap', WHERE WHAT IT READS IS OF BULK AT MOST 1048576: true; the input reads as it did. -/
def fnExactMirrorHeapUptoRow : OpenClaim := { program := "ytenkiofddpjidaa", sum := "41241a7835f143c92ce7102524f8fffa666fcfdef15afce144934ff1806cfb4d", func := "loop.example/g01166/laws.FnExactMirrorHeap", spec := "fnExactMirrorHeap", unfollowed := true, recurses := true, apart := false, narrowed := true }
def FnExactMirrorHeapUptoSaid : Prop := fnExactMirrorHeapUptoRow.holds Try.pinned (OpenSpec.upto fnExactMirrorHeapSpec)

/-- 'laws.FnExactTopHeights', WHERE WHAT IT READS IS OF BULK AT MOST 1048576: true; the input reads as it did. -/
def fnExactTopHeightsUptoRow : OpenClaim := { program := "ytenkiofddpjidaa", sum := "41241a7835f143c92ce7102524f8fffa666fcfdef15afce144934ff1806cfb4d", func := "loop.example/g01166/laws.FnExactTopHeights", spec := "fnExactTopHeights", apart := false, narrowed := true }
def FnExactTopHeightsUptoSaid : Prop := fnExactTopHeightsUptoRow.holds Try.pinned (OpenSpec.upto fnExactTopHeightsSpec)

end Rows
end Go.Proofs.Ytenkiofddpjidaa
