/-
  No cell of these rows narrows 'for every input' (looked for: loops, veiled, ifaces, maps, wideKeys, modest, calm, conditions, laid).
  DERIVED. THE GIVEN ROWS OF THIS SEAT. 12 by the template 'for every input the law returns true; each argument reads behind the call as it read before'; 0 by the template 'total and deterministic' (their statements: YtbheeobnghlckaaTotals.lean).
  GIVEN WITH THE SEED: the statements are not yours to turn. If you find one false, say at which input.
  Laid BY PROGRAM, IN A SANDBOX (cutbox-rows.mjs): the forced cells as the released guide's own fill.sh prints them over the translation b7c870a9fcbaaafc… (all of the seat's roots in one cut). By AI agents, Wed Nov 11 2026. No macro, syntax, notation, axiom, sorry.
-/
import Derived.Test.YtbheeobnghlckaaChecked
import GoSem.Claim
import GoSem.ClaimJoined
import GoSem.ClaimMapViews
import Derived.JoinedTies
import Derived.KernelRfl
namespace Go.Proofs.Ytbheeobnghlckaa
/- THE CELL 'sum', in the pinned program and in every row, IS THE sha256 OF THE DUMP (.gsa) THAT YtbheeobnghlckaaProg.lean LOADS. Nothing in Lean hashes anything: it is a label: what it is worth is what the hold of that sum in a sandbox is worth. -/
noncomputable def Try.pinned : Pinned := { name := "ytbheeobnghlckaa", sum := "b7c870a9fcbaaafcdb6be57006cc9052d4ba7a7148dd971fab875ccdd4b02e9b", checked := Try.checked }
namespace Rows
def none {H : Type} : Left H := { results := [], args := [] }

/-- 'laws.FnExactIsShadow': WHATEVER THE INPUT: true; the input reads as it did. -/
def fnExactIsShadowSpec : ChangeSpec := { name := "fnExactIsShadow", fn := fun _ => fun
  | [d] => { results := [.lit (.bool true)], args := [d] }
  | _ => none }
def fnExactIsShadowRow : OpenClaim := { program := "ytbheeobnghlckaa", sum := "b7c870a9fcbaaafcdb6be57006cc9052d4ba7a7148dd971fab875ccdd4b02e9b", func := "loop.example/g01166/laws.FnExactIsShadow", spec := "fnExactIsShadow", apart := false }
def FnExactIsShadowSaid : Prop := fnExactIsShadowRow.holds Try.pinned (OpenSpec.ofChange fnExactIsShadowSpec)

/-- ITS FALSE NEIGHBOUR: 'it returns false'. Refute it at one input. -/
def fnExactIsShadowWrong : ChangeSpec := { name := "fnExactIsShadow", fn := fun _ => fun
  | [d] => { results := [.lit (.bool false)], args := [d] }
  | _ => none }
def FnExactIsShadowWrongFalsely : Prop := fnExactIsShadowRow.holds Try.pinned (OpenSpec.ofChange fnExactIsShadowWrong)

/-- 'laws.FnExactIsPiece': WHATEVER THE INPUT: true; the input reads as it did. -/
def fnExactIsPieceSpec : ChangeSpec := { name := "fnExactIsPiece", fn := fun _ => fun
  | [d] => { results := [.lit (.bool true)], args := [d] }
  | _ => none }
def fnExactIsPieceRow : OpenClaim := { program := "ytbheeobnghlckaa", sum := "b7c870a9fcbaaafcdb6be57006cc9052d4ba7a7148dd971fab875ccdd4b02e9b", func := "loop.example/g01166/laws.FnExactIsPiece", spec := "fnExactIsPiece", apart := false }
def FnExactIsPieceSaid : Prop := fnExactIsPieceRow.holds Try.pinned (OpenSpec.ofChange fnExactIsPieceSpec)

/-- ITS FALSE NEIGHBOUR: 'it returns false'. Refute it at one input. -/
def fnExactIsPieceWrong : ChangeSpec := { name := "fnExactIsPiece", fn := fun _ => fun
  | [d] => { results := [.lit (.bool false)], args := [d] }
  | _ => none }
def FnExactIsPieceWrongFalsely : Prop := fnExactIsPieceRow.holds Try.pinned (OpenSpec.ofChange fnExactIsPieceWrong)

/-- 'laws.FnExactLineBound': WHATEVER THE INPUT: true; the input reads as it did. -/
def fnExactLineBoundSpec : ChangeSpec := { name := "fnExactLineBound", fn := fun _ => fun
  | [d] => { results := [.lit (.bool true)], args := [d] }
  | _ => none }
def fnExactLineBoundRow : OpenClaim := { program := "ytbheeobnghlckaa", sum := "b7c870a9fcbaaafcdb6be57006cc9052d4ba7a7148dd971fab875ccdd4b02e9b", func := "loop.example/g01166/laws.FnExactLineBound", spec := "fnExactLineBound", apart := false }
def FnExactLineBoundSaid : Prop := fnExactLineBoundRow.holds Try.pinned (OpenSpec.ofChange fnExactLineBoundSpec)

/-- ITS FALSE NEIGHBOUR: 'it returns false'. Refute it at one input. -/
def fnExactLineBoundWrong : ChangeSpec := { name := "fnExactLineBound", fn := fun _ => fun
  | [d] => { results := [.lit (.bool false)], args := [d] }
  | _ => none }
def FnExactLineBoundWrongFalsely : Prop := fnExactLineBoundRow.holds Try.pinned (OpenSpec.ofChange fnExactLineBoundWrong)

/-- 'laws.FnExactPieceParity': WHATEVER THE INPUT: true; the input reads as it did. -/
def fnExactPieceParitySpec : ChangeSpec := { name := "fnExactPieceParity", fn := fun _ => fun
  | [d] => { results := [.lit (.bool true)], args := [d] }
  | _ => none }
def fnExactPieceParityRow : OpenClaim := { program := "ytbheeobnghlckaa", sum := "b7c870a9fcbaaafcdb6be57006cc9052d4ba7a7148dd971fab875ccdd4b02e9b", func := "loop.example/g01166/laws.FnExactPieceParity", spec := "fnExactPieceParity", apart := false }
def FnExactPieceParitySaid : Prop := fnExactPieceParityRow.holds Try.pinned (OpenSpec.ofChange fnExactPieceParitySpec)

/-- ITS FALSE NEIGHBOUR: 'it returns false'. Refute it at one input. -/
def fnExactPieceParityWrong : ChangeSpec := { name := "fnExactPieceParity", fn := fun _ => fun
  | [d] => { results := [.lit (.bool false)], args := [d] }
  | _ => none }
def FnExactPieceParityWrongFalsely : Prop := fnExactPieceParityRow.holds Try.pinned (OpenSpec.ofChange fnExactPieceParityWrong)

/-- 'laws.FnExactStackHeap': WHATEVER THE INPUT: true; the input reads as it did. -/
def fnExactStackHeapSpec : ChangeSpec := { name := "fnExactStackHeap", fn := fun _ => fun
  | [d1, d2, d3, d4] => { results := [.lit (.bool true)], args := [d1, d2, d3, d4] }
  | _ => none }
def fnExactStackHeapRow : OpenClaim := { program := "ytbheeobnghlckaa", sum := "b7c870a9fcbaaafcdb6be57006cc9052d4ba7a7148dd971fab875ccdd4b02e9b", func := "loop.example/g01166/laws.FnExactStackHeap", spec := "fnExactStackHeap", unfollowed := true, recurses := true, apart := false }
def FnExactStackHeapSaid : Prop := fnExactStackHeapRow.holds Try.pinned (OpenSpec.ofChange fnExactStackHeapSpec)

/-- ITS FALSE NEIGHBOUR: 'it returns false'. Refute it at one input. -/
def fnExactStackHeapWrong : ChangeSpec := { name := "fnExactStackHeap", fn := fun _ => fun
  | [d1, d2, d3, d4] => { results := [.lit (.bool false)], args := [d1, d2, d3, d4] }
  | _ => none }
def FnExactStackHeapWrongFalsely : Prop := fnExactStackHeapRow.holds Try.pinned (OpenSpec.ofChange fnExactStackHeapWrong)

/-- 'laws.FnExactFullLines': WHATEVER THE INPUT: true; the input reads as it did. -/
def fnExactFullLinesSpec : ChangeSpec := { name := "fnExactFullLines", fn := fun _ => fun
  | [d1, d2] => { results := [.lit (.bool true)], args := [d1, d2] }
  | _ => none }
def fnExactFullLinesRow : OpenClaim := { program := "ytbheeobnghlckaa", sum := "b7c870a9fcbaaafcdb6be57006cc9052d4ba7a7148dd971fab875ccdd4b02e9b", func := "loop.example/g01166/laws.FnExactFullLines", spec := "fnExactFullLines", apart := false }
def FnExactFullLinesSaid : Prop := fnExactFullLinesRow.holds Try.pinned (OpenSpec.ofChange fnExactFullLinesSpec)

/-- ITS FALSE NEIGHBOUR: 'it returns false'. Refute it at one input. -/
def fnExactFullLinesWrong : ChangeSpec := { name := "fnExactFullLines", fn := fun _ => fun
  | [d1, d2] => { results := [.lit (.bool false)], args := [d1, d2] }
  | _ => none }
def FnExactFullLinesWrongFalsely : Prop := fnExactFullLinesRow.holds Try.pinned (OpenSpec.ofChange fnExactFullLinesWrong)

/-- 'laws.FnExactIsStair': WHATEVER THE INPUT: true; the input reads as it did. -/
def fnExactIsStairSpec : ChangeSpec := { name := "fnExactIsStair", fn := fun _ => fun
  | [d] => { results := [.lit (.bool true)], args := [d] }
  | _ => none }
def fnExactIsStairRow : OpenClaim := { program := "ytbheeobnghlckaa", sum := "b7c870a9fcbaaafcdb6be57006cc9052d4ba7a7148dd971fab875ccdd4b02e9b", func := "loop.example/g01166/laws.FnExactIsStair", spec := "fnExactIsStair", unfollowed := true, recurses := true, apart := false }
def FnExactIsStairSaid : Prop := fnExactIsStairRow.holds Try.pinned (OpenSpec.ofChange fnExactIsStairSpec)

/-- ITS FALSE NEIGHBOUR: 'it returns false'. Refute it at one input. -/
def fnExactIsStairWrong : ChangeSpec := { name := "fnExactIsStair", fn := fun _ => fun
  | [d] => { results := [.lit (.bool false)], args := [d] }
  | _ => none }
def FnExactIsStairWrongFalsely : Prop := fnExactIsStairRow.holds Try.pinned (OpenSpec.ofChange fnExactIsStairWrong)

/-- 'laws.FnExactBareFaces': WHATEVER THE INPUT: true; the input reads as it did. -/
def fnExactBareFacesSpec : ChangeSpec := { name := "fnExactBareFaces", fn := fun _ => fun
  | [d] => { results := [.lit (.bool true)], args := [d] }
  | _ => none }
def fnExactBareFacesRow : OpenClaim := { program := "ytbheeobnghlckaa", sum := "b7c870a9fcbaaafcdb6be57006cc9052d4ba7a7148dd971fab875ccdd4b02e9b", func := "loop.example/g01166/laws.FnExactBareFaces", spec := "fnExactBareFaces", apart := false }
def FnExactBareFacesSaid : Prop := fnExactBareFacesRow.holds Try.pinned (OpenSpec.ofChange fnExactBareFacesSpec)

/-- ITS FALSE NEIGHBOUR: 'it returns false'. Refute it at one input. -/
def fnExactBareFacesWrong : ChangeSpec := { name := "fnExactBareFaces", fn := fun _ => fun
  | [d] => { results := [.lit (.bool false)], args := [d] }
  | _ => none }
def FnExactBareFacesWrongFalsely : Prop := fnExactBareFacesRow.holds Try.pinned (OpenSpec.ofChange fnExactBareFacesWrong)

/-- 'laws.FnExactSurfaceOf': WHATEVER THE INPUT: true; the input reads as it did. -/
def fnExactSurfaceOfSpec : ChangeSpec := { name := "fnExactSurfaceOf", fn := fun _ => fun
  | [d] => { results := [.lit (.bool true)], args := [d] }
  | _ => none }
def fnExactSurfaceOfRow : OpenClaim := { program := "ytbheeobnghlckaa", sum := "b7c870a9fcbaaafcdb6be57006cc9052d4ba7a7148dd971fab875ccdd4b02e9b", func := "loop.example/g01166/laws.FnExactSurfaceOf", spec := "fnExactSurfaceOf", apart := false }
def FnExactSurfaceOfSaid : Prop := fnExactSurfaceOfRow.holds Try.pinned (OpenSpec.ofChange fnExactSurfaceOfSpec)

/-- ITS FALSE NEIGHBOUR: 'it returns false'. Refute it at one input. -/
def fnExactSurfaceOfWrong : ChangeSpec := { name := "fnExactSurfaceOf", fn := fun _ => fun
  | [d] => { results := [.lit (.bool false)], args := [d] }
  | _ => none }
def FnExactSurfaceOfWrongFalsely : Prop := fnExactSurfaceOfRow.holds Try.pinned (OpenSpec.ofChange fnExactSurfaceOfWrong)

/-- 'laws.FnExactMirrorShadow': WHATEVER THE INPUT: true; the input reads as it did. -/
def fnExactMirrorShadowSpec : ChangeSpec := { name := "fnExactMirrorShadow", fn := fun _ => fun
  | [d1, d2] => { results := [.lit (.bool true)], args := [d1, d2] }
  | _ => none }
def fnExactMirrorShadowRow : OpenClaim := { program := "ytbheeobnghlckaa", sum := "b7c870a9fcbaaafcdb6be57006cc9052d4ba7a7148dd971fab875ccdd4b02e9b", func := "loop.example/g01166/laws.FnExactMirrorShadow", spec := "fnExactMirrorShadow", apart := false }
def FnExactMirrorShadowSaid : Prop := fnExactMirrorShadowRow.holds Try.pinned (OpenSpec.ofChange fnExactMirrorShadowSpec)

/-- ITS FALSE NEIGHBOUR: 'it returns false'. Refute it at one input. -/
def fnExactMirrorShadowWrong : ChangeSpec := { name := "fnExactMirrorShadow", fn := fun _ => fun
  | [d1, d2] => { results := [.lit (.bool false)], args := [d1, d2] }
  | _ => none }
def FnExactMirrorShadowWrongFalsely : Prop := fnExactMirrorShadowRow.holds Try.pinned (OpenSpec.ofChange fnExactMirrorShadowWrong)

/-- 'laws.FnExactAllStairs': WHATEVER THE INPUT: true; the input reads as it did. -/
def fnExactAllStairsSpec : ChangeSpec := { name := "fnExactAllStairs", fn := fun _ => fun
  | [d1, d2, d3] => { results := [.lit (.bool true)], args := [d1, d2, d3] }
  | _ => none }
def fnExactAllStairsRow : OpenClaim := { program := "ytbheeobnghlckaa", sum := "b7c870a9fcbaaafcdb6be57006cc9052d4ba7a7148dd971fab875ccdd4b02e9b", func := "loop.example/g01166/laws.FnExactAllStairs", spec := "fnExactAllStairs", unfollowed := true, recurses := true, apart := false }
def FnExactAllStairsSaid : Prop := fnExactAllStairsRow.holds Try.pinned (OpenSpec.ofChange fnExactAllStairsSpec)

/-- ITS FALSE NEIGHBOUR: 'it returns false'. Refute it at one input. -/
def fnExactAllStairsWrong : ChangeSpec := { name := "fnExactAllStairs", fn := fun _ => fun
  | [d1, d2, d3] => { results := [.lit (.bool false)], args := [d1, d2, d3] }
  | _ => none }
def FnExactAllStairsWrongFalsely : Prop := fnExactAllStairsRow.holds Try.pinned (OpenSpec.ofChange fnExactAllStairsWrong)

/-- 'laws.FnExactStairAt': WHATEVER THE INPUT: true; the input reads as it did. -/
def fnExactStairAtSpec : ChangeSpec := { name := "fnExactStairAt", fn := fun _ => fun
  | [d1, d2, d3, d4] => { results := [.lit (.bool true)], args := [d1, d2, d3, d4] }
  | _ => none }
def fnExactStairAtRow : OpenClaim := { program := "ytbheeobnghlckaa", sum := "b7c870a9fcbaaafcdb6be57006cc9052d4ba7a7148dd971fab875ccdd4b02e9b", func := "loop.example/g01166/laws.FnExactStairAt", spec := "fnExactStairAt", unfollowed := true, recurses := true, apart := false }
def FnExactStairAtSaid : Prop := fnExactStairAtRow.holds Try.pinned (OpenSpec.ofChange fnExactStairAtSpec)

/-- ITS FALSE NEIGHBOUR: 'it returns false'. Refute it at one input. -/
def fnExactStairAtWrong : ChangeSpec := { name := "fnExactStairAt", fn := fun _ => fun
  | [d1, d2, d3, d4] => { results := [.lit (.bool false)], args := [d1, d2, d3, d4] }
  | _ => none }
def FnExactStairAtWrongFalsely : Prop := fnExactStairAtRow.holds Try.pinned (OpenSpec.ofChange fnExactStairAtWrong)

/- THE SECOND FORM. 'bulk': how many values and letters a reading holds, each counted each time it is reached (what is shared counts as often as it is met; a slice's spare places count too). A statement '..UptoSaid' is the law's where the arguments, and the package variables that the reading takes, are together of bulk at most 1048576: NARROWER than '..Said'. Prove '..Said' where nothing that the law and all that it calls make is longer than what came in: it says more and counts as full. Else prove '..UptoSaid'. A law counts once. -/
mutual
def uptoBulk {H : Type} : DataW H → Nat
  | .lit (.string bytes) => bytes.length + 1
  | .lit _ => 1
  | .nil => 1
  | .ptr d => uptoBulk d + 1
  | .slice elems spare => uptoBulkAll elems + uptoBulkAll spare + 1
  | .agg parts => uptoBulkAll parts + 1
  | .iface _ d => uptoBulk d + 1
  | .map entries => uptoBulkEntries entries + 1
  | .held _ => 1
def uptoBulkAll {H : Type} : List (DataW H) → Nat
  | [] => 0
  | d :: r => uptoBulk d + uptoBulkAll r
def uptoBulkEntries {H : Type} : List (Lit × DataW H) → Nat
  | [] => 0
  | x :: r => uptoBulkEntry x + uptoBulkEntries r
def uptoBulkEntry {H : Type} : Lit × DataW H → Nat
  | (.string bytes, d) => bytes.length + uptoBulk d + 1
  | (_, d) => uptoBulk d + 1
 end
def uptoSmall : (H : Type) → List (DataW H) → Bool := fun _ ds => decide (uptoBulkAll ds ≤ 1048576)
def OpenSpec.upto (s : _root_.Go.ChangeSpec) : _root_.Go.OpenSpec := { _root_.Go.OpenSpec.ofChange s with cond := some uptoSmall }

/-- 'laws.FnExactIsShadow', WHERE WHAT IT READS IS OF BULK AT MOST 1048576: true; the input reads as it did. -/
def fnExactIsShadowUptoRow : OpenClaim := { program := "ytbheeobnghlckaa", sum := "b7c870a9fcbaaafcdb6be57006cc9052d4ba7a7148dd971fab875ccdd4b02e9b", func := "loop.example/g01166/laws.FnExactIsShadow", spec := "fnExactIsShadow", apart := false, narrowed := true }
def FnExactIsShadowUptoSaid : Prop := fnExactIsShadowUptoRow.holds Try.pinned (OpenSpec.upto fnExactIsShadowSpec)

/-- 'laws.FnExactIsPiece', WHERE WHAT IT READS IS OF BULK AT MOST 1048576: true; the input reads as it did. -/
def fnExactIsPieceUptoRow : OpenClaim := { program := "ytbheeobnghlckaa", sum := "b7c870a9fcbaaafcdb6be57006cc9052d4ba7a7148dd971fab875ccdd4b02e9b", func := "loop.example/g01166/laws.FnExactIsPiece", spec := "fnExactIsPiece", apart := false, narrowed := true }
def FnExactIsPieceUptoSaid : Prop := fnExactIsPieceUptoRow.holds Try.pinned (OpenSpec.upto fnExactIsPieceSpec)

/-- 'laws.FnExactLineBound', WHERE WHAT IT READS IS OF BULK AT MOST 1048576: true; the input reads as it did. -/
def fnExactLineBoundUptoRow : OpenClaim := { program := "ytbheeobnghlckaa", sum := "b7c870a9fcbaaafcdb6be57006cc9052d4ba7a7148dd971fab875ccdd4b02e9b", func := "loop.example/g01166/laws.FnExactLineBound", spec := "fnExactLineBound", apart := false, narrowed := true }
def FnExactLineBoundUptoSaid : Prop := fnExactLineBoundUptoRow.holds Try.pinned (OpenSpec.upto fnExactLineBoundSpec)

/-- 'laws.FnExactPieceParity', WHERE WHAT IT READS IS OF BULK AT MOST 1048576: true; the input reads as it did. -/
def fnExactPieceParityUptoRow : OpenClaim := { program := "ytbheeobnghlckaa", sum := "b7c870a9fcbaaafcdb6be57006cc9052d4ba7a7148dd971fab875ccdd4b02e9b", func := "loop.example/g01166/laws.FnExactPieceParity", spec := "fnExactPieceParity", apart := false, narrowed := true }
def FnExactPieceParityUptoSaid : Prop := fnExactPieceParityUptoRow.holds Try.pinned (OpenSpec.upto fnExactPieceParitySpec)

/-- 'laws.FnExactStackHeap', WHERE WHAT IT READS IS OF BULK AT MOST 1048576: true; the input reads as it did. -/
def fnExactStackHeapUptoRow : OpenClaim := { program := "ytbheeobnghlckaa", sum := "b7c870a9fcbaaafcdb6be57006cc9052d4ba7a7148dd971fab875ccdd4b02e9b", func := "loop.example/g01166/laws.FnExactStackHeap", spec := "fnExactStackHeap", unfollowed := true, recurses := true, apart := false, narrowed := true }
def FnExactStackHeapUptoSaid : Prop := fnExactStackHeapUptoRow.holds Try.pinned (OpenSpec.upto fnExactStackHeapSpec)

/-- 'laws.FnExactFullLines', WHERE WHAT IT READS IS OF BULK AT MOST 1048576: true; the input reads as it did. -/
def fnExactFullLinesUptoRow : OpenClaim := { program := "ytbheeobnghlckaa", sum := "b7c870a9fcbaaafcdb6be57006cc9052d4ba7a7148dd971fab875ccdd4b02e9b", func := "loop.example/g01166/laws.FnExactFullLines", spec := "fnExactFullLines", apart := false, narrowed := true }
def FnExactFullLinesUptoSaid : Prop := fnExactFullLinesUptoRow.holds Try.pinned (OpenSpec.upto fnExactFullLinesSpec)

/-- 'laws.FnExactIsStair', WHERE WHAT IT READS IS OF BULK AT MOST 1048576: true; the input reads as it did. -/
def fnExactIsStairUptoRow : OpenClaim := { program := "ytbheeobnghlckaa", sum := "b7c870a9fcbaaafcdb6be57006cc9052d4ba7a7148dd971fab875ccdd4b02e9b", func := "loop.example/g01166/laws.FnExactIsStair", spec := "fnExactIsStair", unfollowed := true, recurses := true, apart := false, narrowed := true }
def FnExactIsStairUptoSaid : Prop := fnExactIsStairUptoRow.holds Try.pinned (OpenSpec.upto fnExactIsStairSpec)

/-- 'laws.FnExactBareFaces', WHERE WHAT IT READS IS OF BULK AT MOST 1048576: true; the input reads as it did. -/
def fnExactBareFacesUptoRow : OpenClaim := { program := "ytbheeobnghlckaa", sum := "b7c870a9fcbaaafcdb6be57006cc9052d4ba7a7148dd971fab875ccdd4b02e9b", func := "loop.example/g01166/laws.FnExactBareFaces", spec := "fnExactBareFaces", apart := false, narrowed := true }
def FnExactBareFacesUptoSaid : Prop := fnExactBareFacesUptoRow.holds Try.pinned (OpenSpec.upto fnExactBareFacesSpec)

/-- 'laws.FnExactSurfaceOf', WHERE WHAT IT READS IS OF BULK AT MOST 1048576: true; the input reads as it did. -/
def fnExactSurfaceOfUptoRow : OpenClaim := { program := "ytbheeobnghlckaa", sum := "b7c870a9fcbaaafcdb6be57006cc9052d4ba7a7148dd971fab875ccdd4b02e9b", func := "loop.example/g01166/laws.FnExactSurfaceOf", spec := "fnExactSurfaceOf", apart := false, narrowed := true }
def FnExactSurfaceOfUptoSaid : Prop := fnExactSurfaceOfUptoRow.holds Try.pinned (OpenSpec.upto fnExactSurfaceOfSpec)

/-- 'laws.FnExactMirrorShadow', WHERE WHAT IT READS IS OF BULK AT MOST 1048576: true; the input reads as it did. -/
def fnExactMirrorShadowUptoRow : OpenClaim := { program := "ytbheeobnghlckaa", sum := "b7c870a9fcbaaafcdb6be57006cc9052d4ba7a7148dd971fab875ccdd4b02e9b", func := "loop.example/g01166/laws.FnExactMirrorShadow", spec := "fnExactMirrorShadow", apart := false, narrowed := true }
def FnExactMirrorShadowUptoSaid : Prop := fnExactMirrorShadowUptoRow.holds Try.pinned (OpenSpec.upto fnExactMirrorShadowSpec)

/-- 'laws.FnExactAllStairs', WHERE WHAT IT READS IS OF BULK AT MOST 1048576: true; the input reads as it did. -/
def fnExactAllStairsUptoRow : OpenClaim := { program := "ytbheeobnghlckaa", sum := "b7c870a9fcbaaafcdb6be57006cc9052d4ba7a7148dd971fab875ccdd4b02e9b", func := "loop.example/g01166/laws.FnExactAllStairs", spec := "fnExactAllStairs", unfollowed := true, recurses := true, apart := false, narrowed := true }
def FnExactAllStairsUptoSaid : Prop := fnExactAllStairsUptoRow.holds Try.pinned (OpenSpec.upto fnExactAllStairsSpec)

/-- 'laws.FnExactStairAt', WHERE WHAT IT READS IS OF BULK AT MOST 1048576: true; the input reads as it did. -/
def fnExactStairAtUptoRow : OpenClaim := { program := "ytbheeobnghlckaa", sum := "b7c870a9fcbaaafcdb6be57006cc9052d4ba7a7148dd971fab875ccdd4b02e9b", func := "loop.example/g01166/laws.FnExactStairAt", spec := "fnExactStairAt", unfollowed := true, recurses := true, apart := false, narrowed := true }
def FnExactStairAtUptoSaid : Prop := fnExactStairAtUptoRow.holds Try.pinned (OpenSpec.upto fnExactStairAtSpec)

end Rows
end Go.Proofs.Ytbheeobnghlckaa
