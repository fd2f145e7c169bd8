/- Walks. No condition. -/
import Derived.Test.YtenkiofddpjidaaAmG1
set_option linter.unusedVariables false
set_option linter.unusedSimpArgs false
namespace Go.Proofs.Ytenkiofddpjidaa
open Go.Am Go.RowKit
set_option maxRecDepth 100000 in
set_option maxHeartbeats 4000000 in
theorem setHas_ok (s i : Nat) (hs : s < 18446744073709551616) (hi : i < 64) : Sound Try.prog 94 [.int .u64 ((s : Nat) : Int), .int .i64 ((i : Nat) : Int)] [] (.bool (s.testBit i)) [] := by
  refine sound_intro (C := cx) Try.func94 rfl (by kernel_rfl) fun hcl => ?_
  refine cSeq ?_
  refine cReg ?_
  refine segEnd [0, 1, 4] (T1 := (mkT 10 [(0, .int .u64 ((s : Nat) : Int)), (1, .int .i64 ((i : Nat) : Int)), (4, .bool false)])) (H1 := []) (by kernel_rfl) ?_
  refine kSeq ?_
  refine cSeq ?_
  refine cReg ?_
  refine seg 2 (T1 := (mkT 10 [(0, .int .u64 ((s : Nat) : Int)), (1, .int .i64 ((i : Nat) : Int)), (4, .bool false), (5, .int .u64 ((s : Nat) : Int)), (6, .int .i64 ((i : Nat) : Int))])) (H1 := []) (by kernel_rfl) ?_
  refine rOp (v := .int .u64 ((s >>> i : Nat) : Int)) (H' := []) (by kernel_rfl) (eShr (k := .u64) (a := ((s : Nat) : Int)) (b := ((i : Nat) : Int)) (k' := .i64) (c := ((s >>> i : Nat) : Int)) (by kernel_rfl) (by kernel_rfl) (by omega) (shrU s i hi)) ?_
  refine rOp (v := .int .u64 ((s >>> i &&& 1 : Nat) : Int)) (H' := []) (by kernel_rfl) (eOp (k := .u64) (a := ((s >>> i : Nat) : Int)) (b := 1) (by kernel_rfl) (by kernel_rfl) ⟨by decide, by decide⟩ (andU _ 1 (shr_le s i hs) (by decide))) ?_
  refine segEnd [0, 1, 4] (T1 := (mkT 10 [(0, .int .u64 ((s : Nat) : Int)), (1, .int .i64 ((i : Nat) : Int)), (4, .bool (((s >>> i &&& 1 : Nat) : Int) == 1))])) (H1 := []) (by kernel_rfl) ?_
  refine kSeq ?_
  refine cRet ?_
  exact endQ (Or.inr rfl) (l := [.bool (((s >>> i &&& 1 : Nat) : Int) == 1)]) [] (by kernel_rfl) (congrArg Value.bool (bit_eq s i)) rfl rfl hcl rfl

set_option maxRecDepth 100000 in
set_option maxHeartbeats 4000000 in
theorem size_ok (X Y Z : Nat) (hX : X ≤ 4) (hY : Y ≤ 4) (hZ : Z ≤ 4) : Sound Try.prog 98 [.agg #[.int .i64 ((X : Nat) : Int), .int .i64 ((Y : Nat) : Int), .int .i64 ((Z : Nat) : Int)]] [] (.int .i64 ((X * Y * Z : Nat) : Int)) [] := by
  refine sound_intro (C := cx) Try.func98 rfl (by kernel_rfl) fun hcl => ?_
  have hsz := size_le hX hY hZ
  refine cSeq ?_
  refine cReg ?_
  refine segEnd [0, 1, 2] (T1 := (mkT 11 [(0, .agg #[.int .i64 ((X : Nat) : Int), .int .i64 ((Y : Nat) : Int), .int .i64 ((Z : Nat) : Int)]), (1, .pointer (some ⟨0, 0, none⟩)), (2, .int .i64 0)])) (H1 := [some ⟨[.int .i64 ((X : Nat) : Int), .int .i64 ((Y : Nat) : Int), .int .i64 ((Z : Nat) : Int)], 60, true, true⟩]) (by kernel_rfl) ?_
  refine kSeq ?_
  refine cSeq ?_
  refine cReg ?_
  refine seg 4 (T1 := (mkT 11 [(0, .agg #[.int .i64 ((X : Nat) : Int), .int .i64 ((Y : Nat) : Int), .int .i64 ((Z : Nat) : Int)]), (1, .pointer (some ⟨0, 0, none⟩)), (2, .int .i64 0), (3, .pointer (some ⟨0, 0, none⟩)), (4, .int .i64 ((X : Nat) : Int)), (5, .pointer (some ⟨0, 1, none⟩)), (6, .int .i64 ((Y : Nat) : Int))])) (H1 := [some ⟨[.int .i64 ((X : Nat) : Int), .int .i64 ((Y : Nat) : Int), .int .i64 ((Z : Nat) : Int)], 60, true, true⟩]) (by kernel_rfl) ?_
  refine rOp (v := .int .i64 ((X * Y : Nat) : Int)) (H' := [some ⟨[.int .i64 ((X : Nat) : Int), .int .i64 ((Y : Nat) : Int), .int .i64 ((Z : Nat) : Int)], 60, true, true⟩]) (by kernel_rfl) (eMul (k := .i64) (a := ((X : Nat) : Int)) (b := ((Y : Nat) : Int)) (c := ((X * Y : Nat) : Int)) (by kernel_rfl) (by kernel_rfl) (nMul (by omega))) ?_
  refine seg 2 (T1 := (mkT 11 [(0, .agg #[.int .i64 ((X : Nat) : Int), .int .i64 ((Y : Nat) : Int), .int .i64 ((Z : Nat) : Int)]), (1, .pointer (some ⟨0, 0, none⟩)), (2, .int .i64 0), (3, .pointer (some ⟨0, 0, none⟩)), (4, .int .i64 ((X : Nat) : Int)), (5, .pointer (some ⟨0, 1, none⟩)), (6, .int .i64 ((Y : Nat) : Int)), (7, .int .i64 ((X * Y : Nat) : Int)), (8, .pointer (some ⟨0, 2, none⟩)), (9, .int .i64 ((Z : Nat) : Int))])) (H1 := [some ⟨[.int .i64 ((X : Nat) : Int), .int .i64 ((Y : Nat) : Int), .int .i64 ((Z : Nat) : Int)], 60, true, true⟩]) (by kernel_rfl) ?_
  refine rOp (v := .int .i64 (((X * Y) * Z : Nat) : Int)) (H' := [some ⟨[.int .i64 ((X : Nat) : Int), .int .i64 ((Y : Nat) : Int), .int .i64 ((Z : Nat) : Int)], 60, true, true⟩]) (by kernel_rfl) (eMul (k := .i64) (a := ((X * Y : Nat) : Int)) (b := ((Z : Nat) : Int)) (c := (((X * Y) * Z : Nat) : Int)) (by kernel_rfl) (by kernel_rfl) (nMul (by omega))) ?_
  refine segEnd [0, 1, 2] (T1 := (mkT 11 [(0, .agg #[.int .i64 ((X : Nat) : Int), .int .i64 ((Y : Nat) : Int), .int .i64 ((Z : Nat) : Int)]), (1, .pointer (some ⟨0, 0, none⟩)), (2, .int .i64 (((X * Y) * Z : Nat) : Int))])) (H1 := [some ⟨[.int .i64 ((X : Nat) : Int), .int .i64 ((Y : Nat) : Int), .int .i64 ((Z : Nat) : Int)], 60, true, true⟩]) (by kernel_rfl) ?_
  refine kSeq ?_
  refine cRet ?_
  exact endQ (Or.inr rfl) (l := [.int .i64 (((X * Y) * Z : Nat) : Int)]) [some ⟨[.int .i64 ((X : Nat) : Int), .int .i64 ((Y : Nat) : Int), .int .i64 ((Z : Nat) : Int)], 60, true, true⟩] (by kernel_rfl) (rfl) rfl rfl hcl rfl

set_option maxRecDepth 100000 in
set_option maxHeartbeats 4000000 in
theorem cell_ok (X Y Z i : Nat) (hY0 : 1 ≤ Y) (hZ0 : 1 ≤ Z) (hi : i ≤ 64) : Sound Try.prog 99 [.agg #[.int .i64 ((X : Nat) : Int), .int .i64 ((Y : Nat) : Int), .int .i64 ((Z : Nat) : Int)], .int .i64 ((i : Nat) : Int)] [] (.agg #[.int .i64 ((i / Z / Y : Nat) : Int), .int .i64 ((i / Z % Y : Nat) : Int), .int .i64 ((i % Z : Nat) : Int)]) [] := by
  refine sound_intro (C := cx) Try.func99 rfl (by kernel_rfl) fun hcl => ?_
  have hq := Nat.div_le_self i Z
  refine cSeq ?_
  refine cReg ?_
  refine segEnd [0, 1, 2, 4] (T1 := (mkT 24 [(0, .agg #[.int .i64 ((X : Nat) : Int), .int .i64 ((Y : Nat) : Int), .int .i64 ((Z : Nat) : Int)]), (1, .int .i64 ((i : Nat) : Int)), (2, .pointer (some ⟨0, 0, none⟩)), (4, .pointer (some ⟨1, 0, none⟩))])) (H1 := [some ⟨[.int .i64 ((X : Nat) : Int), .int .i64 ((Y : Nat) : Int), .int .i64 ((Z : Nat) : Int)], 60, true, true⟩, some ⟨[.int .i64 0, .int .i64 0, .int .i64 0], 25, true, true⟩]) (by kernel_rfl) ?_
  refine kSeq ?_
  refine cSeq ?_
  refine cRegD (by kernel_rfl) ?_
  refine segD 3 (T1 := (mkT 24 [(0, .agg #[.int .i64 ((X : Nat) : Int), .int .i64 ((Y : Nat) : Int), .int .i64 ((Z : Nat) : Int)]), (1, .int .i64 ((i : Nat) : Int)), (2, .pointer (some ⟨0, 0, none⟩)), (4, .pointer (some ⟨1, 0, none⟩)), (5, .int .i64 ((i : Nat) : Int)), (6, .pointer (some ⟨0, 2, none⟩)), (7, .int .i64 ((Z : Nat) : Int))])) (H1 := [some ⟨[.int .i64 ((X : Nat) : Int), .int .i64 ((Y : Nat) : Int), .int .i64 ((Z : Nat) : Int)], 60, true, true⟩, some ⟨[.int .i64 0, .int .i64 0, .int .i64 0], 25, true, true⟩]) (by kernel_rfl) ?_
  refine rOpD (v := .int .i64 ((i / Z : Nat) : Int)) (H' := [some ⟨[.int .i64 ((X : Nat) : Int), .int .i64 ((Y : Nat) : Int), .int .i64 ((Z : Nat) : Int)], 60, true, true⟩, some ⟨[.int .i64 0, .int .i64 0, .int .i64 0], 25, true, true⟩]) (by kernel_rfl) (eQuo (k := .i64) (a := ((i : Nat) : Int)) (b := ((Z : Nat) : Int)) (c := ((i / Z : Nat) : Int)) (by kernel_rfl) (by kernel_rfl) (by omega) (nQuo (by omega))) (by rfl) ?_
  refine segD 2 (T1 := (mkT 24 [(0, .agg #[.int .i64 ((X : Nat) : Int), .int .i64 ((Y : Nat) : Int), .int .i64 ((Z : Nat) : Int)]), (1, .int .i64 ((i : Nat) : Int)), (2, .pointer (some ⟨0, 0, none⟩)), (4, .pointer (some ⟨1, 0, none⟩)), (5, .int .i64 ((i : Nat) : Int)), (6, .pointer (some ⟨0, 2, none⟩)), (7, .int .i64 ((Z : Nat) : Int)), (8, .int .i64 ((i / Z : Nat) : Int)), (9, .pointer (some ⟨0, 1, none⟩)), (10, .int .i64 ((Y : Nat) : Int))])) (H1 := [some ⟨[.int .i64 ((X : Nat) : Int), .int .i64 ((Y : Nat) : Int), .int .i64 ((Z : Nat) : Int)], 60, true, true⟩, some ⟨[.int .i64 0, .int .i64 0, .int .i64 0], 25, true, true⟩]) (by kernel_rfl) ?_
  refine rOpD (v := .int .i64 (((i / Z) / Y : Nat) : Int)) (H' := [some ⟨[.int .i64 ((X : Nat) : Int), .int .i64 ((Y : Nat) : Int), .int .i64 ((Z : Nat) : Int)], 60, true, true⟩, some ⟨[.int .i64 0, .int .i64 0, .int .i64 0], 25, true, true⟩]) (by kernel_rfl) (eQuo (k := .i64) (a := ((i / Z : Nat) : Int)) (b := ((Y : Nat) : Int)) (c := (((i / Z) / Y : Nat) : Int)) (by kernel_rfl) (by kernel_rfl) (by omega) (nQuo (by omega))) (by rfl) ?_
  refine segD 3 (T1 := (mkT 24 [(0, .agg #[.int .i64 ((X : Nat) : Int), .int .i64 ((Y : Nat) : Int), .int .i64 ((Z : Nat) : Int)]), (1, .int .i64 ((i : Nat) : Int)), (2, .pointer (some ⟨0, 0, none⟩)), (4, .pointer (some ⟨1, 0, none⟩)), (5, .int .i64 ((i : Nat) : Int)), (6, .pointer (some ⟨0, 2, none⟩)), (7, .int .i64 ((Z : Nat) : Int)), (8, .int .i64 ((i / Z : Nat) : Int)), (9, .pointer (some ⟨0, 1, none⟩)), (10, .int .i64 ((Y : Nat) : Int)), (11, .int .i64 (((i / Z) / Y : Nat) : Int)), (12, .int .i64 ((i : Nat) : Int)), (13, .pointer (some ⟨0, 2, none⟩)), (14, .int .i64 ((Z : Nat) : Int))])) (H1 := [some ⟨[.int .i64 ((X : Nat) : Int), .int .i64 ((Y : Nat) : Int), .int .i64 ((Z : Nat) : Int)], 60, true, true⟩, some ⟨[.int .i64 0, .int .i64 0, .int .i64 0], 25, true, true⟩]) (by kernel_rfl) ?_
  refine rOpD (v := .int .i64 ((i / Z : Nat) : Int)) (H' := [some ⟨[.int .i64 ((X : Nat) : Int), .int .i64 ((Y : Nat) : Int), .int .i64 ((Z : Nat) : Int)], 60, true, true⟩, some ⟨[.int .i64 0, .int .i64 0, .int .i64 0], 25, true, true⟩]) (by kernel_rfl) (eQuo (k := .i64) (a := ((i : Nat) : Int)) (b := ((Z : Nat) : Int)) (c := ((i / Z : Nat) : Int)) (by kernel_rfl) (by kernel_rfl) (by omega) (nQuo (by omega))) (by rfl) ?_
  refine segD 2 (T1 := (mkT 24 [(0, .agg #[.int .i64 ((X : Nat) : Int), .int .i64 ((Y : Nat) : Int), .int .i64 ((Z : Nat) : Int)]), (1, .int .i64 ((i : Nat) : Int)), (2, .pointer (some ⟨0, 0, none⟩)), (4, .pointer (some ⟨1, 0, none⟩)), (5, .int .i64 ((i : Nat) : Int)), (6, .pointer (some ⟨0, 2, none⟩)), (7, .int .i64 ((Z : Nat) : Int)), (8, .int .i64 ((i / Z : Nat) : Int)), (9, .pointer (some ⟨0, 1, none⟩)), (10, .int .i64 ((Y : Nat) : Int)), (11, .int .i64 (((i / Z) / Y : Nat) : Int)), (12, .int .i64 ((i : Nat) : Int)), (13, .pointer (some ⟨0, 2, none⟩)), (14, .int .i64 ((Z : Nat) : Int)), (15, .int .i64 ((i / Z : Nat) : Int)), (16, .pointer (some ⟨0, 1, none⟩)), (17, .int .i64 ((Y : Nat) : Int))])) (H1 := [some ⟨[.int .i64 ((X : Nat) : Int), .int .i64 ((Y : Nat) : Int), .int .i64 ((Z : Nat) : Int)], 60, true, true⟩, some ⟨[.int .i64 0, .int .i64 0, .int .i64 0], 25, true, true⟩]) (by kernel_rfl) ?_
  refine rOpD (v := .int .i64 (((i / Z) % Y : Nat) : Int)) (H' := [some ⟨[.int .i64 ((X : Nat) : Int), .int .i64 ((Y : Nat) : Int), .int .i64 ((Z : Nat) : Int)], 60, true, true⟩, some ⟨[.int .i64 0, .int .i64 0, .int .i64 0], 25, true, true⟩]) (by kernel_rfl) (eRem (k := .i64) (a := ((i / Z : Nat) : Int)) (b := ((Y : Nat) : Int)) (c := (((i / Z) % Y : Nat) : Int)) (by kernel_rfl) (by kernel_rfl) (by omega) nRem) (by rfl) ?_
  refine segD 3 (T1 := (mkT 24 [(0, .agg #[.int .i64 ((X : Nat) : Int), .int .i64 ((Y : Nat) : Int), .int .i64 ((Z : Nat) : Int)]), (1, .int .i64 ((i : Nat) : Int)), (2, .pointer (some ⟨0, 0, none⟩)), (4, .pointer (some ⟨1, 0, none⟩)), (5, .int .i64 ((i : Nat) : Int)), (6, .pointer (some ⟨0, 2, none⟩)), (7, .int .i64 ((Z : Nat) : Int)), (8, .int .i64 ((i / Z : Nat) : Int)), (9, .pointer (some ⟨0, 1, none⟩)), (10, .int .i64 ((Y : Nat) : Int)), (11, .int .i64 (((i / Z) / Y : Nat) : Int)), (12, .int .i64 ((i : Nat) : Int)), (13, .pointer (some ⟨0, 2, none⟩)), (14, .int .i64 ((Z : Nat) : Int)), (15, .int .i64 ((i / Z : Nat) : Int)), (16, .pointer (some ⟨0, 1, none⟩)), (17, .int .i64 ((Y : Nat) : Int)), (18, .int .i64 (((i / Z) % Y : Nat) : Int)), (19, .int .i64 ((i : Nat) : Int)), (20, .pointer (some ⟨0, 2, none⟩)), (21, .int .i64 ((Z : Nat) : Int))])) (H1 := [some ⟨[.int .i64 ((X : Nat) : Int), .int .i64 ((Y : Nat) : Int), .int .i64 ((Z : Nat) : Int)], 60, true, true⟩, some ⟨[.int .i64 0, .int .i64 0, .int .i64 0], 25, true, true⟩]) (by kernel_rfl) ?_
  refine rOpD (v := .int .i64 ((i % Z : Nat) : Int)) (H' := [some ⟨[.int .i64 ((X : Nat) : Int), .int .i64 ((Y : Nat) : Int), .int .i64 ((Z : Nat) : Int)], 60, true, true⟩, some ⟨[.int .i64 0, .int .i64 0, .int .i64 0], 25, true, true⟩]) (by kernel_rfl) (eRem (k := .i64) (a := ((i : Nat) : Int)) (b := ((Z : Nat) : Int)) (c := ((i % Z : Nat) : Int)) (by kernel_rfl) (by kernel_rfl) (by omega) nRem) (by rfl) ?_
  refine segEndD [0, 1, 2, 4] (T1 := (mkT 24 [(0, .agg #[.int .i64 ((X : Nat) : Int), .int .i64 ((Y : Nat) : Int), .int .i64 ((Z : Nat) : Int)]), (1, .int .i64 ((i : Nat) : Int)), (2, .pointer (some ⟨0, 0, none⟩)), (4, .pointer (some ⟨1, 0, none⟩))])) (H1 := [some ⟨[.int .i64 ((X : Nat) : Int), .int .i64 ((Y : Nat) : Int), .int .i64 ((Z : Nat) : Int)], 60, true, true⟩, some ⟨[.int .i64 (((i / Z) / Y : Nat) : Int), .int .i64 (((i / Z) % Y : Nat) : Int), .int .i64 ((i % Z : Nat) : Int)], 25, true, true⟩]) (by kernel_rfl) ?_
  refine kSeq ?_
  refine cRet ?_
  exact endQ (Or.inr rfl) (l := [.agg #[.int .i64 (((i / Z) / Y : Nat) : Int), .int .i64 (((i / Z) % Y : Nat) : Int), .int .i64 ((i % Z : Nat) : Int)]]) [some ⟨[.int .i64 ((X : Nat) : Int), .int .i64 ((Y : Nat) : Int), .int .i64 ((Z : Nat) : Int)], 60, true, true⟩, some ⟨[.int .i64 (((i / Z) / Y : Nat) : Int), .int .i64 (((i / Z) % Y : Nat) : Int), .int .i64 ((i % Z : Nat) : Int)], 25, true, true⟩] (by kernel_rfl) (rfl) rfl rfl hcl rfl

set_option maxRecDepth 100000 in
set_option maxHeartbeats 4000000 in
theorem list_ok (X Y Z s : Nat) (hX0 : 1 ≤ X) (hX : X ≤ 4) (hY0 : 1 ≤ Y) (hY : Y ≤ 4) (hZ0 : 1 ≤ Z) (hZ : Z ≤ 4) (hs : s < 18446744073709551616) : Sound Try.prog 64 [.agg #[.int .i64 ((X : Nat) : Int), .int .i64 ((Y : Nat) : Int), .int .i64 ((Z : Nat) : Int)], .int .u64 ((s : Nat) : Int)] [] (.slice (some ⟨0, 0, none⟩) ((listOf X Y Z s).length) 0) [some ⟨a3s (listOf X Y Z s), 25, false, true⟩] := by
  refine sound_intro (C := cx) Try.func64 rfl (by kernel_rfl) fun hcl => ?_
  have hsz := size_le hX hY hZ
  refine cSeq ?_
  refine cReg ?_
  refine segEnd [0, 1, 2, 4] (T1 := (mkT 24 [(0, .agg #[.int .i64 ((X : Nat) : Int), .int .i64 ((Y : Nat) : Int), .int .i64 ((Z : Nat) : Int)]), (1, .int .u64 ((s : Nat) : Int)), (2, .pointer (some ⟨0, 0, none⟩)), (4, .slice none 0 0)])) (H1 := [some ⟨[.int .i64 ((X : Nat) : Int), .int .i64 ((Y : Nat) : Int), .int .i64 ((Z : Nat) : Int)], 60, true, true⟩]) (by kernel_rfl) ?_
  refine kSeq ?_
  refine cSeq ?_
  refine cReg ?_
  refine segEnd [0, 1, 2, 4, 5] (T1 := (mkT 24 [(0, .agg #[.int .i64 ((X : Nat) : Int), .int .i64 ((Y : Nat) : Int), .int .i64 ((Z : Nat) : Int)]), (1, .int .u64 ((s : Nat) : Int)), (2, .pointer (some ⟨0, 0, none⟩)), (4, .slice none 0 0), (5, .slice (some ⟨1, 0, none⟩) 0 0)])) (H1 := [some ⟨[.int .i64 ((X : Nat) : Int), .int .i64 ((Y : Nat) : Int), .int .i64 ((Z : Nat) : Int)], 60, true, true⟩, some ⟨[], 25, false, true⟩]) (by kernel_rfl) ?_
  refine kSeq ?_
  refine cSeq ?_
  refine cSeq ?_
  refine cReg ?_
  refine seg 1 (T1 := (mkT 24 [(0, .agg #[.int .i64 ((X : Nat) : Int), .int .i64 ((Y : Nat) : Int), .int .i64 ((Z : Nat) : Int)]), (1, .int .u64 ((s : Nat) : Int)), (2, .pointer (some ⟨0, 0, none⟩)), (4, .slice none 0 0), (5, .slice (some ⟨1, 0, none⟩) 0 0), (8, .agg #[.int .i64 ((X : Nat) : Int), .int .i64 ((Y : Nat) : Int), .int .i64 ((Z : Nat) : Int)])])) (H1 := [some ⟨[.int .i64 ((X : Nat) : Int), .int .i64 ((Y : Nat) : Int), .int .i64 ((Z : Nat) : Int)], 60, true, true⟩, some ⟨[], 25, false, true⟩]) (by kernel_rfl) ?_
  refine rCall (v := .int .i64 ((X * Y * Z : Nat) : Int)) (H' := [some ⟨[.int .i64 ((X : Nat) : Int), .int .i64 ((Y : Nat) : Int), .int .i64 ((Z : Nat) : Int)], 60, true, true⟩, some ⟨[], 25, false, true⟩]) (args := [.agg #[.int .i64 ((X : Nat) : Int), .int .i64 ((Y : Nat) : Int), .int .i64 ((Z : Nat) : Int)]]) (by kernel_rfl) rfl (by kernel_rfl) ((size_ok X Y Z (by omega) (by omega) (by omega)).flat rfl rfl _) ?_
  refine segEnd [0, 1, 2, 4, 5, 9, 10] (T1 := (mkT 24 [(0, .agg #[.int .i64 ((X : Nat) : Int), .int .i64 ((Y : Nat) : Int), .int .i64 ((Z : Nat) : Int)]), (1, .int .u64 ((s : Nat) : Int)), (2, .pointer (some ⟨0, 0, none⟩)), (4, .slice none 0 0), (5, .slice (some ⟨1, 0, none⟩) 0 0), (9, .int .i64 ((X * Y * Z : Nat) : Int)), (10, .int .i64 0)])) (H1 := [some ⟨[.int .i64 ((X : Nat) : Int), .int .i64 ((Y : Nat) : Int), .int .i64 ((Z : Nat) : Int)], 60, true, true⟩, some ⟨[], 25, false, true⟩]) (by kernel_rfl) ?_
  refine kSeq ?_
  refine cBlk ?_
  -- loop
  refine cLoop (fun mm T H => ∃ i : Nat, ∃ L : List A3, (i ≤ X * Y * Z) ∧ (L = upto Y Z s i) ∧ mm = X * Y * Z - i ∧ T = (mkT 24 [(1, .int .u64 ((s : Nat) : Int)), (2, .pointer (some ⟨0, 0, none⟩)), (4, .slice none 0 0), (5, .slice (some ⟨1, 0, none⟩) L.length 0), (9, .int .i64 ((X * Y * Z : Nat) : Int)), (10, .int .i64 ((i : Nat) : Int))]) ∧ H = [some ⟨[.int .i64 ((X : Nat) : Int), .int .i64 ((Y : Nat) : Int), .int .i64 ((Z : Nat) : Int)], 60, true, true⟩, some ⟨a3s L, 25, false, true⟩]) (X * Y * Z - 0) (mkT 24 [(1, .int .u64 ((s : Nat) : Int)), (2, .pointer (some ⟨0, 0, none⟩)), (4, .slice none 0 0), (5, .slice (some ⟨1, 0, none⟩) (([] : List A3).length) 0), (9, .int .i64 ((X * Y * Z : Nat) : Int)), (10, .int .i64 0)]) [some ⟨[.int .i64 ((X : Nat) : Int), .int .i64 ((Y : Nat) : Int), .int .i64 ((Z : Nat) : Int)], 60, true, true⟩, some ⟨a3s ([] : List A3), 25, false, true⟩] (wkSame [1, 2, 4, 5, 9, 10] (by kernel_rfl)) ?_ ?_
  · exact ⟨0, ([] : List A3), (Nat.zero_le _), (by simp [upto]), rfl, rfl, rfl⟩
  · rintro _ _ _ ⟨i, L, hi, hL, rfl, rfl, rfl⟩
    have hlen : L.length ≤ i := hL ▸ upto_length Y Z s i
    refine cSeq ?_
    refine cReg ?_
    refine segEnd [1, 2, 4, 5, 9, 10, 11] (T1 := (mkT 24 [(1, .int .u64 ((s : Nat) : Int)), (2, .pointer (some ⟨0, 0, none⟩)), (4, .slice none 0 0), (5, .slice (some ⟨1, 0, none⟩) L.length 0), (9, .int .i64 ((X * Y * Z : Nat) : Int)), (10, .int .i64 ((i : Nat) : Int)), (11, .bool (decide (((i : Nat) : Int) < ((X * Y * Z : Nat) : Int))))])) (H1 := [some ⟨[.int .i64 ((X : Nat) : Int), .int .i64 ((Y : Nat) : Int), .int .i64 ((Z : Nat) : Int)], 60, true, true⟩, some ⟨a3s L, 25, false, true⟩]) (by kernel_rfl) ?_
    refine kSeq ?_
    refine cSeq ?_
    cases h1 : (decide (((i : Nat) : Int) < ((X * Y * Z : Nat) : Int)) : Bool)
    ·
      (try simp only [Bool.not_eq_true', Bool.not_eq_false', decide_eq_true_eq, decide_eq_false_iff_not, beq_iff_eq, bne_iff_ne, beq_eq_false_iff_ne, bne_eq_false_iff_eq, ne_eq, Decidable.not_not, Bool.and_eq_true, Bool.and_eq_false_imp, Bool.or_eq_true, Bool.or_eq_false_iff, Bool.not_eq_true, Int.not_lt, Int.not_le, ge_iff_le, gt_iff_lt] at h1)
      refine cFalse (by kernel_rfl) ?_
      refine cExit ?_
      refine kSeqE ?_
      refine kLoopE ?_
      refine kBlkHit ?_
      refine kSeq ?_
      refine cSeq ?_
      refine cReg ?_
      refine segEnd [1, 2, 4, 5, 9, 10, 11] (T1 := (mkT 24 [(1, .int .u64 ((s : Nat) : Int)), (2, .pointer (some ⟨0, 0, none⟩)), (4, .slice (some ⟨1, 0, none⟩) L.length 0), (5, .slice (some ⟨1, 0, none⟩) L.length 0), (9, .int .i64 ((X * Y * Z : Nat) : Int)), (10, .int .i64 ((i : Nat) : Int)), (11, .bool false)])) (H1 := [some ⟨[.int .i64 ((X : Nat) : Int), .int .i64 ((Y : Nat) : Int), .int .i64 ((Z : Nat) : Int)], 60, true, true⟩, some ⟨a3s L, 25, false, true⟩]) (by kernel_rfl) ?_
      refine kSeq ?_
      refine cRet ?_
      have hend : i = X * Y * Z := by omega
      subst hend
      subst hL
      exact endF (Or.inr rfl) (l := [.slice (some ⟨1, 0, none⟩) (upto Y Z s (X * Y * Z)).length 0]) [1] (by kernel_rfl) (by first | rfl | simp [packR, mpV, mpA, mpS, mpP, renId]) ⟨rrF (flatA3 _ _ _ _) rfl, trivial⟩ rfl rfl
    ·
      (try simp only [Bool.not_eq_true', Bool.not_eq_false', decide_eq_true_eq, decide_eq_false_iff_not, beq_iff_eq, bne_iff_ne, beq_eq_false_iff_ne, bne_eq_false_iff_eq, ne_eq, Decidable.not_not, Bool.and_eq_true, Bool.and_eq_false_imp, Bool.or_eq_true, Bool.or_eq_false_iff, Bool.not_eq_true, Int.not_lt, Int.not_le, ge_iff_le, gt_iff_lt] at h1)
      refine cTrue (by kernel_rfl) ?_
      refine cSkip ?_
      refine kSeq ?_
      refine cSeq ?_
      refine cBlk ?_
      refine cSeq ?_
      refine cReg ?_
      refine segEnd [1, 2, 4, 5, 6, 9, 10, 11] (T1 := (mkT 24 [(1, .int .u64 ((s : Nat) : Int)), (2, .pointer (some ⟨0, 0, none⟩)), (4, .slice none 0 0), (5, .slice (some ⟨1, 0, none⟩) L.length 0), (6, .int .i64 ((i : Nat) : Int)), (9, .int .i64 ((X * Y * Z : Nat) : Int)), (10, .int .i64 ((i : Nat) : Int)), (11, .bool true)])) (H1 := [some ⟨[.int .i64 ((X : Nat) : Int), .int .i64 ((Y : Nat) : Int), .int .i64 ((Z : Nat) : Int)], 60, true, true⟩, some ⟨a3s L, 25, false, true⟩]) (by kernel_rfl) ?_
      refine kSeq ?_
      refine cSeq ?_
      refine cReg ?_
      refine seg 2 (T1 := (mkT 24 [(1, .int .u64 ((s : Nat) : Int)), (2, .pointer (some ⟨0, 0, none⟩)), (4, .slice none 0 0), (5, .slice (some ⟨1, 0, none⟩) L.length 0), (6, .int .i64 ((i : Nat) : Int)), (9, .int .i64 ((X * Y * Z : Nat) : Int)), (10, .int .i64 ((i : Nat) : Int)), (11, .bool true), (13, .int .u64 ((s : Nat) : Int)), (14, .int .i64 ((i : Nat) : Int))])) (H1 := [some ⟨[.int .i64 ((X : Nat) : Int), .int .i64 ((Y : Nat) : Int), .int .i64 ((Z : Nat) : Int)], 60, true, true⟩, some ⟨a3s L, 25, false, true⟩]) (by kernel_rfl) ?_
      refine rCall (v := .bool (s.testBit i)) (H' := [some ⟨[.int .i64 ((X : Nat) : Int), .int .i64 ((Y : Nat) : Int), .int .i64 ((Z : Nat) : Int)], 60, true, true⟩, some ⟨a3s L, 25, false, true⟩]) (args := [.int .u64 ((s : Nat) : Int), .int .i64 ((i : Nat) : Int)]) (by kernel_rfl) rfl (by kernel_rfl) ((setHas_ok s i (by first | omega | exact full_lt (by omega)) (by omega)).flat rfl rfl _) ?_
      refine segEnd [1, 2, 4, 5, 6, 9, 10, 11, 15] (T1 := (mkT 24 [(1, .int .u64 ((s : Nat) : Int)), (2, .pointer (some ⟨0, 0, none⟩)), (4, .slice none 0 0), (5, .slice (some ⟨1, 0, none⟩) L.length 0), (6, .int .i64 ((i : Nat) : Int)), (9, .int .i64 ((X * Y * Z : Nat) : Int)), (10, .int .i64 ((i : Nat) : Int)), (11, .bool true), (15, .bool (s.testBit i))])) (H1 := [some ⟨[.int .i64 ((X : Nat) : Int), .int .i64 ((Y : Nat) : Int), .int .i64 ((Z : Nat) : Int)], 60, true, true⟩, some ⟨a3s L, 25, false, true⟩]) (by kernel_rfl) ?_
      refine kSeq ?_
      cases h2 : (s.testBit i : Bool)
      ·
        (try simp only [Bool.not_eq_true', Bool.not_eq_false', decide_eq_true_eq, decide_eq_false_iff_not, beq_iff_eq, bne_iff_ne, beq_eq_false_iff_ne, bne_eq_false_iff_eq, ne_eq, Decidable.not_not, Bool.and_eq_true, Bool.and_eq_false_imp, Bool.or_eq_true, Bool.or_eq_false_iff, Bool.not_eq_true, Int.not_lt, Int.not_le, ge_iff_le, gt_iff_lt] at h2)
        refine cFalse (by kernel_rfl) ?_
        refine cSkip ?_
        refine kBlk ?_
        refine kSeq ?_
        refine cReg ?_
        refine rOp (v := .int .i64 ((i + 1 : Nat) : Int)) (H' := [some ⟨[.int .i64 ((X : Nat) : Int), .int .i64 ((Y : Nat) : Int), .int .i64 ((Z : Nat) : Int)], 60, true, true⟩, some ⟨a3s L, 25, false, true⟩]) (by kernel_rfl) (eAdd (k := .i64) (a := ((i : Nat) : Int)) (b := 1) (c := ((i + 1 : Nat) : Int)) (by kernel_rfl) (by kernel_rfl) (wr64 (by omega) (by omega) (by omega))) ?_
        refine segEnd [1, 2, 4, 5, 6, 9, 10, 11, 15] (T1 := (mkT 24 [(1, .int .u64 ((s : Nat) : Int)), (2, .pointer (some ⟨0, 0, none⟩)), (4, .slice none 0 0), (5, .slice (some ⟨1, 0, none⟩) L.length 0), (6, .int .i64 ((i : Nat) : Int)), (9, .int .i64 ((X * Y * Z : Nat) : Int)), (10, .int .i64 ((i + 1 : Nat) : Int)), (11, .bool true), (15, .bool false)])) (H1 := [some ⟨[.int .i64 ((X : Nat) : Int), .int .i64 ((Y : Nat) : Int), .int .i64 ((Z : Nat) : Int)], 60, true, true⟩, some ⟨a3s L, 25, false, true⟩]) (by kernel_rfl) ?_
        exact kLoop (X * Y * Z - (i + 1)) (mkT 24 [(1, .int .u64 ((s : Nat) : Int)), (2, .pointer (some ⟨0, 0, none⟩)), (4, .slice none 0 0), (5, .slice (some ⟨1, 0, none⟩) L.length 0), (9, .int .i64 ((X * Y * Z : Nat) : Int)), (10, .int .i64 ((i + 1 : Nat) : Int))]) [some ⟨[.int .i64 ((X : Nat) : Int), .int .i64 ((Y : Nat) : Int), .int .i64 ((Z : Nat) : Int)], 60, true, true⟩, some ⟨a3s L, 25, false, true⟩] (by omega) (wkSame [1, 2, 4, 5, 9, 10] (by kernel_rfl)) ⟨(i + 1), L, (by omega), (by subst hL; rw [upto_succ]; simp_all [cellOf]), rfl, rfl, rfl⟩
      ·
        (try simp only [Bool.not_eq_true', Bool.not_eq_false', decide_eq_true_eq, decide_eq_false_iff_not, beq_iff_eq, bne_iff_ne, beq_eq_false_iff_ne, bne_eq_false_iff_eq, ne_eq, Decidable.not_not, Bool.and_eq_true, Bool.and_eq_false_imp, Bool.or_eq_true, Bool.or_eq_false_iff, Bool.not_eq_true, Int.not_lt, Int.not_le, ge_iff_le, gt_iff_lt] at h2)
        refine cTrue (by kernel_rfl) ?_
        refine cReg ?_
        refine seg 3 (T1 := (mkT 24 [(1, .int .u64 ((s : Nat) : Int)), (2, .pointer (some ⟨0, 0, none⟩)), (4, .slice none 0 0), (5, .slice (some ⟨1, 0, none⟩) L.length 0), (6, .int .i64 ((i : Nat) : Int)), (9, .int .i64 ((X * Y * Z : Nat) : Int)), (10, .int .i64 ((i : Nat) : Int)), (11, .bool true), (15, .bool true), (16, .slice (some ⟨1, 0, none⟩) L.length 0), (17, .agg #[.int .i64 ((X : Nat) : Int), .int .i64 ((Y : Nat) : Int), .int .i64 ((Z : Nat) : Int)]), (18, .int .i64 ((i : Nat) : Int))])) (H1 := [some ⟨[.int .i64 ((X : Nat) : Int), .int .i64 ((Y : Nat) : Int), .int .i64 ((Z : Nat) : Int)], 60, true, true⟩, some ⟨a3s L, 25, false, true⟩]) (by kernel_rfl) ?_
        refine rCall (v := .agg #[.int .i64 ((i / Z / Y : Nat) : Int), .int .i64 ((i / Z % Y : Nat) : Int), .int .i64 ((i % Z : Nat) : Int)]) (H' := [some ⟨[.int .i64 ((X : Nat) : Int), .int .i64 ((Y : Nat) : Int), .int .i64 ((Z : Nat) : Int)], 60, true, true⟩, some ⟨a3s L, 25, false, true⟩]) (args := [.agg #[.int .i64 ((X : Nat) : Int), .int .i64 ((Y : Nat) : Int), .int .i64 ((Z : Nat) : Int)], .int .i64 ((i : Nat) : Int)]) (by kernel_rfl) rfl (by kernel_rfl) ((cell_ok X Y Z i (by omega) (by omega) (by omega)).flat rfl rfl _) ?_
        refine seg 1 (T1 := (mkT 24 [(1, .int .u64 ((s : Nat) : Int)), (2, .pointer (some ⟨0, 0, none⟩)), (4, .slice none 0 0), (5, .slice (some ⟨1, 0, none⟩) L.length 0), (6, .int .i64 ((i : Nat) : Int)), (9, .int .i64 ((X * Y * Z : Nat) : Int)), (10, .int .i64 ((i : Nat) : Int)), (11, .bool true), (15, .bool true), (16, .slice (some ⟨1, 0, none⟩) L.length 0), (17, .agg #[.int .i64 ((X : Nat) : Int), .int .i64 ((Y : Nat) : Int), .int .i64 ((Z : Nat) : Int)]), (18, .int .i64 ((i : Nat) : Int)), (19, .agg #[.int .i64 ((i / Z / Y : Nat) : Int), .int .i64 ((i / Z % Y : Nat) : Int), .int .i64 ((i % Z : Nat) : Int)]), (20, .slice (some ⟨2, 0, none⟩) 1 0)])) (H1 := [some ⟨[.int .i64 ((X : Nat) : Int), .int .i64 ((Y : Nat) : Int), .int .i64 ((Z : Nat) : Int)], 60, true, true⟩, some ⟨a3s L, 25, false, true⟩, some ⟨[.int .i64 ((i / Z / Y : Nat) : Int), .int .i64 ((i / Z % Y : Nat) : Int), .int .i64 ((i % Z : Nat) : Int)], 25, false, true⟩]) (by kernel_rfl) ?_
        refine rOp (v := .slice (some ⟨3, 0, none⟩) ((L ++ [(A3.mk ((i / Z / Y : Nat) : Int) ((i / Z % Y : Nat) : Int) ((i % Z : Nat) : Int))]).length) 0) (H' := [some ⟨[.int .i64 ((X : Nat) : Int), .int .i64 ((Y : Nat) : Int), .int .i64 ((Z : Nat) : Int)], 60, true, true⟩, none, some ⟨[.int .i64 ((i / Z / Y : Nat) : Int), .int .i64 ((i / Z % Y : Nat) : Int), .int .i64 ((i % Z : Nat) : Int)], 25, false, true⟩, some ⟨a3s (L ++ [(A3.mk ((i / Z / Y : Nat) : Int) ((i / Z % Y : Nat) : Int) ((i % Z : Nat) : Int))]), 25, false, true⟩]) (by kernel_rfl) (eAppA3 (b := 1) (a := 2) (L := L) (c := (A3.mk ((i / Z / Y : Nat) : Int) ((i / Z % Y : Nat) : Int) ((i % Z : Nat) : Int))) (r := ⟨[.int .i64 ((i / Z / Y : Nat) : Int), .int .i64 ((i / Z % Y : Nat) : Int), .int .i64 ((i % Z : Nat) : Int)], 25, false, true⟩) (m := 0) (by kernel_rfl) (by kernel_rfl) ti22 ti25 rfl rfl (by decide) (by kernel_rfl) (by kernel_rfl) rfl (by omega) rfl) ?_
        refine segEnd [1, 2, 4, 5, 6, 9, 10, 11, 15] (T1 := (mkT 24 [(1, .int .u64 ((s : Nat) : Int)), (2, .pointer (some ⟨0, 0, none⟩)), (4, .slice none 0 0), (5, .slice (some ⟨3, 0, none⟩) ((L ++ [(A3.mk ((i / Z / Y : Nat) : Int) ((i / Z % Y : Nat) : Int) ((i % Z : Nat) : Int))]).length) 0), (6, .int .i64 ((i : Nat) : Int)), (9, .int .i64 ((X * Y * Z : Nat) : Int)), (10, .int .i64 ((i : Nat) : Int)), (11, .bool true), (15, .bool true)])) (H1 := [some ⟨[.int .i64 ((X : Nat) : Int), .int .i64 ((Y : Nat) : Int), .int .i64 ((Z : Nat) : Int)], 60, true, true⟩, none, some ⟨[.int .i64 ((i / Z / Y : Nat) : Int), .int .i64 ((i / Z % Y : Nat) : Int), .int .i64 ((i % Z : Nat) : Int)], 25, false, true⟩, some ⟨a3s (L ++ [(A3.mk ((i / Z / Y : Nat) : Int) ((i / Z % Y : Nat) : Int) ((i % Z : Nat) : Int))]), 25, false, true⟩]) (by kernel_rfl) ?_
        refine kBlk ?_
        refine kSeq ?_
        refine cReg ?_
        refine rOp (v := .int .i64 ((i + 1 : Nat) : Int)) (H' := [some ⟨[.int .i64 ((X : Nat) : Int), .int .i64 ((Y : Nat) : Int), .int .i64 ((Z : Nat) : Int)], 60, true, true⟩, none, some ⟨[.int .i64 ((i / Z / Y : Nat) : Int), .int .i64 ((i / Z % Y : Nat) : Int), .int .i64 ((i % Z : Nat) : Int)], 25, false, true⟩, some ⟨a3s (L ++ [(A3.mk ((i / Z / Y : Nat) : Int) ((i / Z % Y : Nat) : Int) ((i % Z : Nat) : Int))]), 25, false, true⟩]) (by kernel_rfl) (eAdd (k := .i64) (a := ((i : Nat) : Int)) (b := 1) (c := ((i + 1 : Nat) : Int)) (by kernel_rfl) (by kernel_rfl) (wr64 (by omega) (by omega) (by omega))) ?_
        refine segEnd [1, 2, 4, 5, 6, 9, 10, 11, 15] (T1 := (mkT 24 [(1, .int .u64 ((s : Nat) : Int)), (2, .pointer (some ⟨0, 0, none⟩)), (4, .slice none 0 0), (5, .slice (some ⟨3, 0, none⟩) ((L ++ [(A3.mk ((i / Z / Y : Nat) : Int) ((i / Z % Y : Nat) : Int) ((i % Z : Nat) : Int))]).length) 0), (6, .int .i64 ((i : Nat) : Int)), (9, .int .i64 ((X * Y * Z : Nat) : Int)), (10, .int .i64 ((i + 1 : Nat) : Int)), (11, .bool true), (15, .bool true)])) (H1 := [some ⟨[.int .i64 ((X : Nat) : Int), .int .i64 ((Y : Nat) : Int), .int .i64 ((Z : Nat) : Int)], 60, true, true⟩, none, some ⟨[.int .i64 ((i / Z / Y : Nat) : Int), .int .i64 ((i / Z % Y : Nat) : Int), .int .i64 ((i % Z : Nat) : Int)], 25, false, true⟩, some ⟨a3s (L ++ [(A3.mk ((i / Z / Y : Nat) : Int) ((i / Z % Y : Nat) : Int) ((i % Z : Nat) : Int))]), 25, false, true⟩]) (by kernel_rfl) ?_
        exact kLoop (X * Y * Z - (i + 1)) (mkT 24 [(1, .int .u64 ((s : Nat) : Int)), (2, .pointer (some ⟨0, 0, none⟩)), (4, .slice none 0 0), (5, .slice (some ⟨1, 0, none⟩) ((L ++ [(A3.mk ((i / Z / Y : Nat) : Int) ((i / Z % Y : Nat) : Int) ((i % Z : Nat) : Int))]).length) 0), (9, .int .i64 ((X * Y * Z : Nat) : Int)), (10, .int .i64 ((i + 1 : Nat) : Int))]) [some ⟨[.int .i64 ((X : Nat) : Int), .int .i64 ((Y : Nat) : Int), .int .i64 ((Z : Nat) : Int)], 60, true, true⟩, some ⟨a3s (L ++ [(A3.mk ((i / Z / Y : Nat) : Int) ((i / Z % Y : Nat) : Int) ((i % Z : Nat) : Int))]), 25, false, true⟩] (by omega) (wkRen [0, 3] [1, 2, 4, 5, 9, 10] ⟨rrX rfl rfl, ⟨rrF (flatA3 _ _ _ _) rfl, trivial⟩⟩ rfl (by kernel_rfl) rfl) ⟨(i + 1), (L ++ [(A3.mk ((i / Z / Y : Nat) : Int) ((i / Z % Y : Nat) : Int) ((i % Z : Nat) : Int))]), (by omega), (by subst hL; rw [upto_succ]; simp_all [cellOf]), rfl, rfl, rfl⟩

set_option maxRecDepth 100000 in
set_option maxHeartbeats 4000000 in
theorem heap_ok (X Y Z s : Nat) (hX0 : 1 ≤ X) (hX : X ≤ 4) (hY0 : 1 ≤ Y) (hY : Y ≤ 4) (hZ0 : 1 ≤ Z) (hZ : Z ≤ 4) (hs : s < 18446744073709551616) : Sound Try.prog 59 [.agg #[.int .i64 ((X : Nat) : Int), .int .i64 ((Y : Nat) : Int), .int .i64 ((Z : Nat) : Int)], .int .u64 ((s : Nat) : Int)] [] (.agg #[.int .i64 ((X : Nat) : Int), .int .i64 ((Y : Nat) : Int), .int .i64 ((Z : Nat) : Int), .slice (some ⟨0, 0, none⟩) ((listOf X Y Z s).length) 0]) [some ⟨a3s (listOf X Y Z s), 25, false, true⟩] := by
  refine sound_intro (C := cx) Try.func59 rfl (by kernel_rfl) fun hcl => ?_
  refine cSeq ?_
  refine cReg ?_
  refine segEnd [0, 1, 2, 4] (T1 := (mkT 15 [(0, .agg #[.int .i64 ((X : Nat) : Int), .int .i64 ((Y : Nat) : Int), .int .i64 ((Z : Nat) : Int)]), (1, .int .u64 ((s : Nat) : Int)), (2, .pointer (some ⟨0, 0, none⟩)), (4, .pointer (some ⟨1, 0, none⟩))])) (H1 := [some ⟨[.int .i64 ((X : Nat) : Int), .int .i64 ((Y : Nat) : Int), .int .i64 ((Z : Nat) : Int)], 60, true, true⟩, some ⟨[.int .i64 0, .int .i64 0, .int .i64 0, .slice none 0 0], 29, true, true⟩]) (by kernel_rfl) ?_
  refine kSeq ?_
  refine cSeq ?_
  refine cRegD (by kernel_rfl) ?_
  refine segD 8 (T1 := (mkT 15 [(0, .agg #[.int .i64 ((X : Nat) : Int), .int .i64 ((Y : Nat) : Int), .int .i64 ((Z : Nat) : Int)]), (1, .int .u64 ((s : Nat) : Int)), (2, .pointer (some ⟨0, 0, none⟩)), (4, .pointer (some ⟨1, 0, none⟩)), (5, .pointer (some ⟨0, 0, none⟩)), (6, .int .i64 ((X : Nat) : Int)), (7, .pointer (some ⟨0, 1, none⟩)), (8, .int .i64 ((Y : Nat) : Int)), (9, .pointer (some ⟨0, 2, none⟩)), (10, .int .i64 ((Z : Nat) : Int)), (11, .agg #[.int .i64 ((X : Nat) : Int), .int .i64 ((Y : Nat) : Int), .int .i64 ((Z : Nat) : Int)]), (12, .int .u64 ((s : Nat) : Int))])) (H1 := [some ⟨[.int .i64 ((X : Nat) : Int), .int .i64 ((Y : Nat) : Int), .int .i64 ((Z : Nat) : Int)], 60, true, true⟩, some ⟨[.int .i64 0, .int .i64 0, .int .i64 0, .slice none 0 0], 29, true, true⟩]) (by kernel_rfl) ?_
  refine rCallN (E := [some ⟨a3s (listOf X Y Z s), 25, false, true⟩]) (v := .slice (some ⟨2, 0, none⟩) ((listOf X Y Z s).length) 0) (args := [.agg #[.int .i64 ((X : Nat) : Int), .int .i64 ((Y : Nat) : Int), .int .i64 ((Z : Nat) : Int)], .int .u64 ((s : Nat) : Int)]) (by kernel_rfl) rfl (by kernel_rfl) (by kernel_rfl) ((list_ok X Y Z s (by omega) (by omega) (by omega) (by omega) (by omega) (by omega) (by first | omega | exact full_lt (by omega))).fresh rfl (FlatH.nil.cons (flatA3 _ _ _ _)) (fun r h => by simp at h; subst h; exact Or.inl rfl) _ (by first | rfl | simp [mpV, mpA, mpS, mpP, renId])) ?_
  refine segEndD [0, 1, 2, 4] (T1 := (mkT 15 [(0, .agg #[.int .i64 ((X : Nat) : Int), .int .i64 ((Y : Nat) : Int), .int .i64 ((Z : Nat) : Int)]), (1, .int .u64 ((s : Nat) : Int)), (2, .pointer (some ⟨0, 0, none⟩)), (4, .pointer (some ⟨1, 0, none⟩))])) (H1 := [some ⟨[.int .i64 ((X : Nat) : Int), .int .i64 ((Y : Nat) : Int), .int .i64 ((Z : Nat) : Int)], 60, true, true⟩, some ⟨[.int .i64 ((X : Nat) : Int), .int .i64 ((Y : Nat) : Int), .int .i64 ((Z : Nat) : Int), .slice (some ⟨2, 0, none⟩) ((listOf X Y Z s).length) 0], 29, true, true⟩, some ⟨a3s (listOf X Y Z s), 25, false, true⟩]) (by kernel_rfl) ?_
  refine kSeq ?_
  refine cRet ?_
  exact endF (Or.inr rfl) (l := [.agg #[.int .i64 ((X : Nat) : Int), .int .i64 ((Y : Nat) : Int), .int .i64 ((Z : Nat) : Int), .slice (some ⟨2, 0, none⟩) ((listOf X Y Z s).length) 0]]) [2] (by kernel_rfl) (by first | rfl | simp [packR, mpV, mpA, mpS, mpP, renId]) ⟨rrF (flatA3 _ _ _ _) rfl, trivial⟩ rfl rfl

set_option maxRecDepth 100000 in
set_option maxHeartbeats 4000000 in
theorem l2Empty_ok (x y z : Int) : Sound Try.prog 68 [.int .i64 x, .int .i64 y, .int .i64 z] [] (.agg #[.int .i64 x, .int .i64 y, .int .i64 z, .slice (some ⟨0, 0, none⟩) 0 0]) [some ⟨[], 25, false, true⟩] := by
  refine sound_intro (C := cx) Try.func68 rfl (by kernel_rfl) fun hcl => ?_
  refine cSeq ?_
  refine cReg ?_
  refine segEnd [0, 1, 2, 6] (T1 := (mkT 12 [(0, .int .i64 x), (1, .int .i64 y), (2, .int .i64 z), (6, .pointer (some ⟨0, 0, none⟩))])) (H1 := [some ⟨[.int .i64 0, .int .i64 0, .int .i64 0, .slice none 0 0], 29, true, true⟩]) (by kernel_rfl) ?_
  refine kSeq ?_
  refine cSeq ?_
  refine cReg ?_
  refine segEnd [0, 1, 2, 6] (T1 := (mkT 12 [(0, .int .i64 x), (1, .int .i64 y), (2, .int .i64 z), (6, .pointer (some ⟨0, 0, none⟩))])) (H1 := [some ⟨[.int .i64 x, .int .i64 y, .int .i64 z, .slice (some ⟨1, 0, none⟩) 0 0], 29, true, true⟩, some ⟨[], 25, false, true⟩]) (by kernel_rfl) ?_
  refine kSeq ?_
  refine cRet ?_
  exact endF (Or.inr rfl) (l := [.agg #[.int .i64 x, .int .i64 y, .int .i64 z, .slice (some ⟨1, 0, none⟩) 0 0]]) [1] (by kernel_rfl) (by first | rfl | simp [packR, mpV, mpA, mpS, mpP, renId]) ⟨rrX rfl rfl, trivial⟩ rfl rfl
end Go.Proofs.Ytenkiofddpjidaa
