/- Walks. No condition. -/
import Derived.Test.YtbheeobnghlckaaAmS4J1
set_option linter.unusedVariables false
set_option linter.unusedSimpArgs false
namespace Go.Proofs.Ytbheeobnghlckaa
open Go.Am Go.RowKit
set_option maxRecDepth 100000 in
set_option maxHeartbeats 4000000 in
theorem l6Steps   : Sound Try.prog 121 [] [] (.agg #[vI (-1), vI 0, vI 0, vI 1, vI 0, vI 0, vI 0, vI (-1), vI 0, vI 0, vI 1, vI 0, vI 0, vI 0, vI (-1), vI 0, vI 0, vI 1]) [] := by
  refine sound_intro (C := cx) Try.func121 rfl (by kernel_rfl) fun hcl => ?_
  refine cSeq ?_
  refine cReg ?_
  refine segEnd [0] (T1 := (mkT 8 [(0, vP 0 0)])) (H1 := [rB [vI 0, vI 0, vI 0, vI 0, vI 0, vI 0, vI 0, vI 0, vI 0, vI 0, vI 0, vI 0, vI 0, vI 0, vI 0, vI 0, vI 0, vI 0] 118]) (by kernel_rfl) ?_
  refine kSeq ?_
  refine cSeq ?_
  refine cReg ?_
  refine segEnd [0] (T1 := (mkT 8 [(0, vP 0 0)])) (H1 := [rB [vI (-1), vI 0, vI 0, vI 1, vI 0, vI 0, vI 0, vI (-1), vI 0, vI 0, vI 1, vI 0, vI 0, vI 0, vI (-1), vI 0, vI 0, vI 1] 118]) (by kernel_rfl) ?_
  refine kSeq ?_
  refine cRet ?_
  -- end
  exact endQ (Or.inr rfl) (l := [.agg #[vI (-1), vI 0, vI 0, vI 1, vI 0, vI 0, vI 0, vI (-1), vI 0, vI 0, vI 1, vI 0, vI 0, vI 0, vI (-1), vI 0, vI 0, vI 1]]) [rB [vI (-1), vI 0, vI 0, vI 1, vI 0, vI 0, vI 0, vI (-1), vI 0, vI 0, vI 1, vI 0, vI 0, vI 0, vI (-1), vI 0, vI 0, vI 1] 118] (by kernel_rfl) (by first | rfl | kernel_rfl) rfl rfl hcl rfl

set_option maxRecDepth 100000 in
set_option maxHeartbeats 4000000 in
theorem l6Beside0 (a : Int) (b : Int) (c : Int) (hb : (-8 ≤ a ∧ a ≤ 8) ∧ (-8 ≤ b ∧ b ≤ 8) ∧ (-8 ≤ c ∧ c ≤ 8)) : Sound Try.prog 123 [.agg #[vI a, vI b, vI c], .agg #[vI (-1), vI 0, vI 0]] [] (.agg #[vI (a + (-1)), vI b, vI c]) [] := by
  refine sound_intro (C := cx) Try.func123 rfl (by kernel_rfl) fun hcl => ?_
  refine cSeq ?_
  refine cReg ?_
  refine segEnd [2, 3, 4] (T1 := (mkT 21 [(2, vP 0 0), (3, vP 1 0), (4, vP 2 0)])) (H1 := [rB [vI a, vI b, vI c] 74, rB [vI (-1), vI 0, vI 0] 74, rB [vI 0, vI 0, vI 0] 74]) (by kernel_rfl) ?_
  refine kSeq ?_
  refine cSeq ?_
  refine cReg ?_
  refine segH 4 (T1 := (mkT 21 [(2, vP 0 0), (3, vP 1 0), (4, vP 2 0), (5, vP 0 0), (6, vI a), (7, vP 1 0), (8, vI (-1))])) (by kernel_rfl) ?_
  refine rOp (v := vI (a + (-1))) (by kernel_rfl) (eAdd (k := .i64) (a := a) (b := (-1)) (c := (a + (-1))) (by kernel_rfl) (by kernel_rfl) (wr64 (by omega) (by omega) (by omega))) ?_
  refine segH 4 (T1 := (mkT 21 [(2, vP 0 0), (3, vP 1 0), (4, vP 2 0), (5, vP 0 0), (6, vI a), (7, vP 1 0), (8, vI (-1)), (9, vI (a + (-1))), (10, vP 0 1), (11, vI b), (12, vP 1 1), (13, vI 0)])) (by kernel_rfl) ?_
  refine rOp (v := vI b) (by kernel_rfl) (eAdd (k := .i64) (a := b) (b := 0) (c := b) (by kernel_rfl) (by kernel_rfl) (wr64 (by omega) (by omega) (by omega))) ?_
  refine segH 4 (T1 := (mkT 21 [(2, vP 0 0), (3, vP 1 0), (4, vP 2 0), (5, vP 0 0), (6, vI a), (7, vP 1 0), (8, vI (-1)), (9, vI (a + (-1))), (10, vP 0 1), (11, vI b), (12, vP 1 1), (13, vI 0), (14, vI b), (15, vP 0 2), (16, vI c), (17, vP 1 2), (18, vI 0)])) (by kernel_rfl) ?_
  refine rOp (v := vI c) (by kernel_rfl) (eAdd (k := .i64) (a := c) (b := 0) (c := c) (by kernel_rfl) (by kernel_rfl) (wr64 (by omega) (by omega) (by omega))) ?_
  refine segEnd [4] (T1 := (mkT 21 [(4, vP 2 0)])) (H1 := [rB [vI a, vI b, vI c] 74, rB [vI (-1), vI 0, vI 0] 74, rB [vI (a + (-1)), vI b, vI c] 74]) (by kernel_rfl) ?_
  refine kSeq ?_
  refine cRet ?_
  -- end
  exact endQ (Or.inr rfl) (l := [.agg #[vI (a + (-1)), vI b, vI c]]) [rB [vI a, vI b, vI c] 74, rB [vI (-1), vI 0, vI 0] 74, rB [vI (a + (-1)), vI b, vI c] 74] (by kernel_rfl) (by first | rfl | kernel_rfl) rfl rfl hcl rfl

set_option maxRecDepth 100000 in
set_option maxHeartbeats 4000000 in
theorem beyond0 (a : Int) (b : Int) (c : Int) (hb : (-8 ≤ a ∧ a ≤ 8) ∧ (-8 ≤ b ∧ b ≤ 8) ∧ (-8 ≤ c ∧ c ≤ 8)) : Sound Try.prog 125 [.agg #[vI a, vI b, vI c], vI 0] [] (.agg #[vI (a + (-1)), vI b, vI c]) [] := by
  refine sound_intro (C := cx) Try.func125 rfl (by kernel_rfl) fun hcl => ?_
  refine cSeq ?_
  refine cReg ?_
  refine segEnd [1, 2, 4] (T1 := (mkT 16 [(1, vI 0), (2, vP 0 0), (4, vP 1 0)])) (H1 := [rB [vI a, vI b, vI c] 74, rB [vI 0, vI 0, vI 0] 74]) (by kernel_rfl) ?_
  refine kSeq ?_
  refine cSeq ?_
  refine cReg ?_
  refine segH 8 (T1 := (mkT 16 [(1, vI 0), (2, vP 0 0), (4, vP 1 0), (5, vI 0), (6, vI 0), (7, vP 0 0), (8, vI a), (9, vI 0), (10, vI 0), (11, vI 0), (12, vI (-1))])) (by kernel_rfl) ?_
  refine rOp (v := vI (a + (-1))) (by kernel_rfl) (eAdd (k := .i64) (a := a) (b := (-1)) (c := (a + (-1))) (by kernel_rfl) (by kernel_rfl) (wr64 (by omega) (by omega) (by omega))) ?_
  refine segEnd [2, 4] (T1 := (mkT 16 [(2, vP 0 0), (4, vP 1 0)])) (H1 := [rB [vI (a + (-1)), vI b, vI c] 74, rB [vI 0, vI 0, vI 0] 74]) (by kernel_rfl) ?_
  refine kSeq ?_
  refine cSeq ?_
  refine cReg ?_
  refine segEnd [4] (T1 := (mkT 16 [(4, vP 1 0)])) (H1 := [rB [vI (a + (-1)), vI b, vI c] 74, rB [vI (a + (-1)), vI b, vI c] 74]) (by kernel_rfl) ?_
  refine kSeq ?_
  refine cRet ?_
  -- end
  exact endQ (Or.inr rfl) (l := [.agg #[vI (a + (-1)), vI b, vI c]]) [rB [vI (a + (-1)), vI b, vI c] 74, rB [vI (a + (-1)), vI b, vI c] 74] (by kernel_rfl) (by first | rfl | kernel_rfl) rfl rfl hcl rfl

set_option maxRecDepth 100000 in
set_option maxHeartbeats 4000000 in
theorem l6Beside1 (a : Int) (b : Int) (c : Int) (hb : (-8 ≤ a ∧ a ≤ 8) ∧ (-8 ≤ b ∧ b ≤ 8) ∧ (-8 ≤ c ∧ c ≤ 8)) : Sound Try.prog 123 [.agg #[vI a, vI b, vI c], .agg #[vI 1, vI 0, vI 0]] [] (.agg #[vI (a + 1), vI b, vI c]) [] := by
  refine sound_intro (C := cx) Try.func123 rfl (by kernel_rfl) fun hcl => ?_
  refine cSeq ?_
  refine cReg ?_
  refine segEnd [2, 3, 4] (T1 := (mkT 21 [(2, vP 0 0), (3, vP 1 0), (4, vP 2 0)])) (H1 := [rB [vI a, vI b, vI c] 74, rB [vI 1, vI 0, vI 0] 74, rB [vI 0, vI 0, vI 0] 74]) (by kernel_rfl) ?_
  refine kSeq ?_
  refine cSeq ?_
  refine cReg ?_
  refine segH 4 (T1 := (mkT 21 [(2, vP 0 0), (3, vP 1 0), (4, vP 2 0), (5, vP 0 0), (6, vI a), (7, vP 1 0), (8, vI 1)])) (by kernel_rfl) ?_
  refine rOp (v := vI (a + 1)) (by kernel_rfl) (eAdd (k := .i64) (a := a) (b := 1) (c := (a + 1)) (by kernel_rfl) (by kernel_rfl) (wr64 (by omega) (by omega) (by omega))) ?_
  refine segH 4 (T1 := (mkT 21 [(2, vP 0 0), (3, vP 1 0), (4, vP 2 0), (5, vP 0 0), (6, vI a), (7, vP 1 0), (8, vI 1), (9, vI (a + 1)), (10, vP 0 1), (11, vI b), (12, vP 1 1), (13, vI 0)])) (by kernel_rfl) ?_
  refine rOp (v := vI b) (by kernel_rfl) (eAdd (k := .i64) (a := b) (b := 0) (c := b) (by kernel_rfl) (by kernel_rfl) (wr64 (by omega) (by omega) (by omega))) ?_
  refine segH 4 (T1 := (mkT 21 [(2, vP 0 0), (3, vP 1 0), (4, vP 2 0), (5, vP 0 0), (6, vI a), (7, vP 1 0), (8, vI 1), (9, vI (a + 1)), (10, vP 0 1), (11, vI b), (12, vP 1 1), (13, vI 0), (14, vI b), (15, vP 0 2), (16, vI c), (17, vP 1 2), (18, vI 0)])) (by kernel_rfl) ?_
  refine rOp (v := vI c) (by kernel_rfl) (eAdd (k := .i64) (a := c) (b := 0) (c := c) (by kernel_rfl) (by kernel_rfl) (wr64 (by omega) (by omega) (by omega))) ?_
  refine segEnd [4] (T1 := (mkT 21 [(4, vP 2 0)])) (H1 := [rB [vI a, vI b, vI c] 74, rB [vI 1, vI 0, vI 0] 74, rB [vI (a + 1), vI b, vI c] 74]) (by kernel_rfl) ?_
  refine kSeq ?_
  refine cRet ?_
  -- end
  exact endQ (Or.inr rfl) (l := [.agg #[vI (a + 1), vI b, vI c]]) [rB [vI a, vI b, vI c] 74, rB [vI 1, vI 0, vI 0] 74, rB [vI (a + 1), vI b, vI c] 74] (by kernel_rfl) (by first | rfl | kernel_rfl) rfl rfl hcl rfl

set_option maxRecDepth 100000 in
set_option maxHeartbeats 4000000 in
theorem beyond1 (a : Int) (b : Int) (c : Int) (hb : (-8 ≤ a ∧ a ≤ 8) ∧ (-8 ≤ b ∧ b ≤ 8) ∧ (-8 ≤ c ∧ c ≤ 8)) : Sound Try.prog 125 [.agg #[vI a, vI b, vI c], vI 1] [] (.agg #[vI (a + 1), vI b, vI c]) [] := by
  refine sound_intro (C := cx) Try.func125 rfl (by kernel_rfl) fun hcl => ?_
  refine cSeq ?_
  refine cReg ?_
  refine segEnd [1, 2, 4] (T1 := (mkT 16 [(1, vI 1), (2, vP 0 0), (4, vP 1 0)])) (H1 := [rB [vI a, vI b, vI c] 74, rB [vI 0, vI 0, vI 0] 74]) (by kernel_rfl) ?_
  refine kSeq ?_
  refine cSeq ?_
  refine cReg ?_
  refine segH 8 (T1 := (mkT 16 [(1, vI 1), (2, vP 0 0), (4, vP 1 0), (5, vI 1), (6, vI 0), (7, vP 0 0), (8, vI a), (9, vI 1), (10, vI 1), (11, vI 2), (12, vI 1)])) (by kernel_rfl) ?_
  refine rOp (v := vI (a + 1)) (by kernel_rfl) (eAdd (k := .i64) (a := a) (b := 1) (c := (a + 1)) (by kernel_rfl) (by kernel_rfl) (wr64 (by omega) (by omega) (by omega))) ?_
  refine segEnd [2, 4] (T1 := (mkT 16 [(2, vP 0 0), (4, vP 1 0)])) (H1 := [rB [vI (a + 1), vI b, vI c] 74, rB [vI 0, vI 0, vI 0] 74]) (by kernel_rfl) ?_
  refine kSeq ?_
  refine cSeq ?_
  refine cReg ?_
  refine segEnd [4] (T1 := (mkT 16 [(4, vP 1 0)])) (H1 := [rB [vI (a + 1), vI b, vI c] 74, rB [vI (a + 1), vI b, vI c] 74]) (by kernel_rfl) ?_
  refine kSeq ?_
  refine cRet ?_
  -- end
  exact endQ (Or.inr rfl) (l := [.agg #[vI (a + 1), vI b, vI c]]) [rB [vI (a + 1), vI b, vI c] 74, rB [vI (a + 1), vI b, vI c] 74] (by kernel_rfl) (by first | rfl | kernel_rfl) rfl rfl hcl rfl

set_option maxRecDepth 100000 in
set_option maxHeartbeats 4000000 in
theorem l6Beside2 (a : Int) (b : Int) (c : Int) (hb : (-8 ≤ a ∧ a ≤ 8) ∧ (-8 ≤ b ∧ b ≤ 8) ∧ (-8 ≤ c ∧ c ≤ 8)) : Sound Try.prog 123 [.agg #[vI a, vI b, vI c], .agg #[vI 0, vI (-1), vI 0]] [] (.agg #[vI a, vI (b + (-1)), vI c]) [] := by
  refine sound_intro (C := cx) Try.func123 rfl (by kernel_rfl) fun hcl => ?_
  refine cSeq ?_
  refine cReg ?_
  refine segEnd [2, 3, 4] (T1 := (mkT 21 [(2, vP 0 0), (3, vP 1 0), (4, vP 2 0)])) (H1 := [rB [vI a, vI b, vI c] 74, rB [vI 0, vI (-1), vI 0] 74, rB [vI 0, vI 0, vI 0] 74]) (by kernel_rfl) ?_
  refine kSeq ?_
  refine cSeq ?_
  refine cReg ?_
  refine segH 4 (T1 := (mkT 21 [(2, vP 0 0), (3, vP 1 0), (4, vP 2 0), (5, vP 0 0), (6, vI a), (7, vP 1 0), (8, vI 0)])) (by kernel_rfl) ?_
  refine rOp (v := vI a) (by kernel_rfl) (eAdd (k := .i64) (a := a) (b := 0) (c := a) (by kernel_rfl) (by kernel_rfl) (wr64 (by omega) (by omega) (by omega))) ?_
  refine segH 4 (T1 := (mkT 21 [(2, vP 0 0), (3, vP 1 0), (4, vP 2 0), (5, vP 0 0), (6, vI a), (7, vP 1 0), (8, vI 0), (9, vI a), (10, vP 0 1), (11, vI b), (12, vP 1 1), (13, vI (-1))])) (by kernel_rfl) ?_
  refine rOp (v := vI (b + (-1))) (by kernel_rfl) (eAdd (k := .i64) (a := b) (b := (-1)) (c := (b + (-1))) (by kernel_rfl) (by kernel_rfl) (wr64 (by omega) (by omega) (by omega))) ?_
  refine segH 4 (T1 := (mkT 21 [(2, vP 0 0), (3, vP 1 0), (4, vP 2 0), (5, vP 0 0), (6, vI a), (7, vP 1 0), (8, vI 0), (9, vI a), (10, vP 0 1), (11, vI b), (12, vP 1 1), (13, vI (-1)), (14, vI (b + (-1))), (15, vP 0 2), (16, vI c), (17, vP 1 2), (18, vI 0)])) (by kernel_rfl) ?_
  refine rOp (v := vI c) (by kernel_rfl) (eAdd (k := .i64) (a := c) (b := 0) (c := c) (by kernel_rfl) (by kernel_rfl) (wr64 (by omega) (by omega) (by omega))) ?_
  refine segEnd [4] (T1 := (mkT 21 [(4, vP 2 0)])) (H1 := [rB [vI a, vI b, vI c] 74, rB [vI 0, vI (-1), vI 0] 74, rB [vI a, vI (b + (-1)), vI c] 74]) (by kernel_rfl) ?_
  refine kSeq ?_
  refine cRet ?_
  -- end
  exact endQ (Or.inr rfl) (l := [.agg #[vI a, vI (b + (-1)), vI c]]) [rB [vI a, vI b, vI c] 74, rB [vI 0, vI (-1), vI 0] 74, rB [vI a, vI (b + (-1)), vI c] 74] (by kernel_rfl) (by first | rfl | kernel_rfl) rfl rfl hcl rfl

set_option maxRecDepth 100000 in
set_option maxHeartbeats 4000000 in
theorem beyond2 (a : Int) (b : Int) (c : Int) (hb : (-8 ≤ a ∧ a ≤ 8) ∧ (-8 ≤ b ∧ b ≤ 8) ∧ (-8 ≤ c ∧ c ≤ 8)) : Sound Try.prog 125 [.agg #[vI a, vI b, vI c], vI 2] [] (.agg #[vI a, vI (b + (-1)), vI c]) [] := by
  refine sound_intro (C := cx) Try.func125 rfl (by kernel_rfl) fun hcl => ?_
  refine cSeq ?_
  refine cReg ?_
  refine segEnd [1, 2, 4] (T1 := (mkT 16 [(1, vI 2), (2, vP 0 0), (4, vP 1 0)])) (H1 := [rB [vI a, vI b, vI c] 74, rB [vI 0, vI 0, vI 0] 74]) (by kernel_rfl) ?_
  refine kSeq ?_
  refine cSeq ?_
  refine cReg ?_
  refine segH 8 (T1 := (mkT 16 [(1, vI 2), (2, vP 0 0), (4, vP 1 0), (5, vI 2), (6, vI 1), (7, vP 0 1), (8, vI b), (9, vI 2), (10, vI 0), (11, vI 0), (12, vI (-1))])) (by kernel_rfl) ?_
  refine rOp (v := vI (b + (-1))) (by kernel_rfl) (eAdd (k := .i64) (a := b) (b := (-1)) (c := (b + (-1))) (by kernel_rfl) (by kernel_rfl) (wr64 (by omega) (by omega) (by omega))) ?_
  refine segEnd [2, 4] (T1 := (mkT 16 [(2, vP 0 0), (4, vP 1 0)])) (H1 := [rB [vI a, vI (b + (-1)), vI c] 74, rB [vI 0, vI 0, vI 0] 74]) (by kernel_rfl) ?_
  refine kSeq ?_
  refine cSeq ?_
  refine cReg ?_
  refine segEnd [4] (T1 := (mkT 16 [(4, vP 1 0)])) (H1 := [rB [vI a, vI (b + (-1)), vI c] 74, rB [vI a, vI (b + (-1)), vI c] 74]) (by kernel_rfl) ?_
  refine kSeq ?_
  refine cRet ?_
  -- end
  exact endQ (Or.inr rfl) (l := [.agg #[vI a, vI (b + (-1)), vI c]]) [rB [vI a, vI (b + (-1)), vI c] 74, rB [vI a, vI (b + (-1)), vI c] 74] (by kernel_rfl) (by first | rfl | kernel_rfl) rfl rfl hcl rfl

set_option maxRecDepth 100000 in
set_option maxHeartbeats 4000000 in
theorem l6Beside3 (a : Int) (b : Int) (c : Int) (hb : (-8 ≤ a ∧ a ≤ 8) ∧ (-8 ≤ b ∧ b ≤ 8) ∧ (-8 ≤ c ∧ c ≤ 8)) : Sound Try.prog 123 [.agg #[vI a, vI b, vI c], .agg #[vI 0, vI 1, vI 0]] [] (.agg #[vI a, vI (b + 1), vI c]) [] := by
  refine sound_intro (C := cx) Try.func123 rfl (by kernel_rfl) fun hcl => ?_
  refine cSeq ?_
  refine cReg ?_
  refine segEnd [2, 3, 4] (T1 := (mkT 21 [(2, vP 0 0), (3, vP 1 0), (4, vP 2 0)])) (H1 := [rB [vI a, vI b, vI c] 74, rB [vI 0, vI 1, vI 0] 74, rB [vI 0, vI 0, vI 0] 74]) (by kernel_rfl) ?_
  refine kSeq ?_
  refine cSeq ?_
  refine cReg ?_
  refine segH 4 (T1 := (mkT 21 [(2, vP 0 0), (3, vP 1 0), (4, vP 2 0), (5, vP 0 0), (6, vI a), (7, vP 1 0), (8, vI 0)])) (by kernel_rfl) ?_
  refine rOp (v := vI a) (by kernel_rfl) (eAdd (k := .i64) (a := a) (b := 0) (c := a) (by kernel_rfl) (by kernel_rfl) (wr64 (by omega) (by omega) (by omega))) ?_
  refine segH 4 (T1 := (mkT 21 [(2, vP 0 0), (3, vP 1 0), (4, vP 2 0), (5, vP 0 0), (6, vI a), (7, vP 1 0), (8, vI 0), (9, vI a), (10, vP 0 1), (11, vI b), (12, vP 1 1), (13, vI 1)])) (by kernel_rfl) ?_
  refine rOp (v := vI (b + 1)) (by kernel_rfl) (eAdd (k := .i64) (a := b) (b := 1) (c := (b + 1)) (by kernel_rfl) (by kernel_rfl) (wr64 (by omega) (by omega) (by omega))) ?_
  refine segH 4 (T1 := (mkT 21 [(2, vP 0 0), (3, vP 1 0), (4, vP 2 0), (5, vP 0 0), (6, vI a), (7, vP 1 0), (8, vI 0), (9, vI a), (10, vP 0 1), (11, vI b), (12, vP 1 1), (13, vI 1), (14, vI (b + 1)), (15, vP 0 2), (16, vI c), (17, vP 1 2), (18, vI 0)])) (by kernel_rfl) ?_
  refine rOp (v := vI c) (by kernel_rfl) (eAdd (k := .i64) (a := c) (b := 0) (c := c) (by kernel_rfl) (by kernel_rfl) (wr64 (by omega) (by omega) (by omega))) ?_
  refine segEnd [4] (T1 := (mkT 21 [(4, vP 2 0)])) (H1 := [rB [vI a, vI b, vI c] 74, rB [vI 0, vI 1, vI 0] 74, rB [vI a, vI (b + 1), vI c] 74]) (by kernel_rfl) ?_
  refine kSeq ?_
  refine cRet ?_
  -- end
  exact endQ (Or.inr rfl) (l := [.agg #[vI a, vI (b + 1), vI c]]) [rB [vI a, vI b, vI c] 74, rB [vI 0, vI 1, vI 0] 74, rB [vI a, vI (b + 1), vI c] 74] (by kernel_rfl) (by first | rfl | kernel_rfl) rfl rfl hcl rfl

set_option maxRecDepth 100000 in
set_option maxHeartbeats 4000000 in
theorem beyond3 (a : Int) (b : Int) (c : Int) (hb : (-8 ≤ a ∧ a ≤ 8) ∧ (-8 ≤ b ∧ b ≤ 8) ∧ (-8 ≤ c ∧ c ≤ 8)) : Sound Try.prog 125 [.agg #[vI a, vI b, vI c], vI 3] [] (.agg #[vI a, vI (b + 1), vI c]) [] := by
  refine sound_intro (C := cx) Try.func125 rfl (by kernel_rfl) fun hcl => ?_
  refine cSeq ?_
  refine cReg ?_
  refine segEnd [1, 2, 4] (T1 := (mkT 16 [(1, vI 3), (2, vP 0 0), (4, vP 1 0)])) (H1 := [rB [vI a, vI b, vI c] 74, rB [vI 0, vI 0, vI 0] 74]) (by kernel_rfl) ?_
  refine kSeq ?_
  refine cSeq ?_
  refine cReg ?_
  refine segH 8 (T1 := (mkT 16 [(1, vI 3), (2, vP 0 0), (4, vP 1 0), (5, vI 3), (6, vI 1), (7, vP 0 1), (8, vI b), (9, vI 3), (10, vI 1), (11, vI 2), (12, vI 1)])) (by kernel_rfl) ?_
  refine rOp (v := vI (b + 1)) (by kernel_rfl) (eAdd (k := .i64) (a := b) (b := 1) (c := (b + 1)) (by kernel_rfl) (by kernel_rfl) (wr64 (by omega) (by omega) (by omega))) ?_
  refine segEnd [2, 4] (T1 := (mkT 16 [(2, vP 0 0), (4, vP 1 0)])) (H1 := [rB [vI a, vI (b + 1), vI c] 74, rB [vI 0, vI 0, vI 0] 74]) (by kernel_rfl) ?_
  refine kSeq ?_
  refine cSeq ?_
  refine cReg ?_
  refine segEnd [4] (T1 := (mkT 16 [(4, vP 1 0)])) (H1 := [rB [vI a, vI (b + 1), vI c] 74, rB [vI a, vI (b + 1), vI c] 74]) (by kernel_rfl) ?_
  refine kSeq ?_
  refine cRet ?_
  -- end
  exact endQ (Or.inr rfl) (l := [.agg #[vI a, vI (b + 1), vI c]]) [rB [vI a, vI (b + 1), vI c] 74, rB [vI a, vI (b + 1), vI c] 74] (by kernel_rfl) (by first | rfl | kernel_rfl) rfl rfl hcl rfl

set_option maxRecDepth 100000 in
set_option maxHeartbeats 4000000 in
theorem l6Beside4 (a : Int) (b : Int) (c : Int) (hb : (-8 ≤ a ∧ a ≤ 8) ∧ (-8 ≤ b ∧ b ≤ 8) ∧ (-8 ≤ c ∧ c ≤ 8)) : Sound Try.prog 123 [.agg #[vI a, vI b, vI c], .agg #[vI 0, vI 0, vI (-1)]] [] (.agg #[vI a, vI b, vI (c + (-1))]) [] := by
  refine sound_intro (C := cx) Try.func123 rfl (by kernel_rfl) fun hcl => ?_
  refine cSeq ?_
  refine cReg ?_
  refine segEnd [2, 3, 4] (T1 := (mkT 21 [(2, vP 0 0), (3, vP 1 0), (4, vP 2 0)])) (H1 := [rB [vI a, vI b, vI c] 74, rB [vI 0, vI 0, vI (-1)] 74, rB [vI 0, vI 0, vI 0] 74]) (by kernel_rfl) ?_
  refine kSeq ?_
  refine cSeq ?_
  refine cReg ?_
  refine segH 4 (T1 := (mkT 21 [(2, vP 0 0), (3, vP 1 0), (4, vP 2 0), (5, vP 0 0), (6, vI a), (7, vP 1 0), (8, vI 0)])) (by kernel_rfl) ?_
  refine rOp (v := vI a) (by kernel_rfl) (eAdd (k := .i64) (a := a) (b := 0) (c := a) (by kernel_rfl) (by kernel_rfl) (wr64 (by omega) (by omega) (by omega))) ?_
  refine segH 4 (T1 := (mkT 21 [(2, vP 0 0), (3, vP 1 0), (4, vP 2 0), (5, vP 0 0), (6, vI a), (7, vP 1 0), (8, vI 0), (9, vI a), (10, vP 0 1), (11, vI b), (12, vP 1 1), (13, vI 0)])) (by kernel_rfl) ?_
  refine rOp (v := vI b) (by kernel_rfl) (eAdd (k := .i64) (a := b) (b := 0) (c := b) (by kernel_rfl) (by kernel_rfl) (wr64 (by omega) (by omega) (by omega))) ?_
  refine segH 4 (T1 := (mkT 21 [(2, vP 0 0), (3, vP 1 0), (4, vP 2 0), (5, vP 0 0), (6, vI a), (7, vP 1 0), (8, vI 0), (9, vI a), (10, vP 0 1), (11, vI b), (12, vP 1 1), (13, vI 0), (14, vI b), (15, vP 0 2), (16, vI c), (17, vP 1 2), (18, vI (-1))])) (by kernel_rfl) ?_
  refine rOp (v := vI (c + (-1))) (by kernel_rfl) (eAdd (k := .i64) (a := c) (b := (-1)) (c := (c + (-1))) (by kernel_rfl) (by kernel_rfl) (wr64 (by omega) (by omega) (by omega))) ?_
  refine segEnd [4] (T1 := (mkT 21 [(4, vP 2 0)])) (H1 := [rB [vI a, vI b, vI c] 74, rB [vI 0, vI 0, vI (-1)] 74, rB [vI a, vI b, vI (c + (-1))] 74]) (by kernel_rfl) ?_
  refine kSeq ?_
  refine cRet ?_
  -- end
  exact endQ (Or.inr rfl) (l := [.agg #[vI a, vI b, vI (c + (-1))]]) [rB [vI a, vI b, vI c] 74, rB [vI 0, vI 0, vI (-1)] 74, rB [vI a, vI b, vI (c + (-1))] 74] (by kernel_rfl) (by first | rfl | kernel_rfl) rfl rfl hcl rfl

set_option maxRecDepth 100000 in
set_option maxHeartbeats 4000000 in
theorem beyond4 (a : Int) (b : Int) (c : Int) (hb : (-8 ≤ a ∧ a ≤ 8) ∧ (-8 ≤ b ∧ b ≤ 8) ∧ (-8 ≤ c ∧ c ≤ 8)) : Sound Try.prog 125 [.agg #[vI a, vI b, vI c], vI 4] [] (.agg #[vI a, vI b, vI (c + (-1))]) [] := by
  refine sound_intro (C := cx) Try.func125 rfl (by kernel_rfl) fun hcl => ?_
  refine cSeq ?_
  refine cReg ?_
  refine segEnd [1, 2, 4] (T1 := (mkT 16 [(1, vI 4), (2, vP 0 0), (4, vP 1 0)])) (H1 := [rB [vI a, vI b, vI c] 74, rB [vI 0, vI 0, vI 0] 74]) (by kernel_rfl) ?_
  refine kSeq ?_
  refine cSeq ?_
  refine cReg ?_
  refine segH 8 (T1 := (mkT 16 [(1, vI 4), (2, vP 0 0), (4, vP 1 0), (5, vI 4), (6, vI 2), (7, vP 0 2), (8, vI c), (9, vI 4), (10, vI 0), (11, vI 0), (12, vI (-1))])) (by kernel_rfl) ?_
  refine rOp (v := vI (c + (-1))) (by kernel_rfl) (eAdd (k := .i64) (a := c) (b := (-1)) (c := (c + (-1))) (by kernel_rfl) (by kernel_rfl) (wr64 (by omega) (by omega) (by omega))) ?_
  refine segEnd [2, 4] (T1 := (mkT 16 [(2, vP 0 0), (4, vP 1 0)])) (H1 := [rB [vI a, vI b, vI (c + (-1))] 74, rB [vI 0, vI 0, vI 0] 74]) (by kernel_rfl) ?_
  refine kSeq ?_
  refine cSeq ?_
  refine cReg ?_
  refine segEnd [4] (T1 := (mkT 16 [(4, vP 1 0)])) (H1 := [rB [vI a, vI b, vI (c + (-1))] 74, rB [vI a, vI b, vI (c + (-1))] 74]) (by kernel_rfl) ?_
  refine kSeq ?_
  refine cRet ?_
  -- end
  exact endQ (Or.inr rfl) (l := [.agg #[vI a, vI b, vI (c + (-1))]]) [rB [vI a, vI b, vI (c + (-1))] 74, rB [vI a, vI b, vI (c + (-1))] 74] (by kernel_rfl) (by first | rfl | kernel_rfl) rfl rfl hcl rfl

set_option maxRecDepth 100000 in
set_option maxHeartbeats 4000000 in
theorem l6Beside5 (a : Int) (b : Int) (c : Int) (hb : (-8 ≤ a ∧ a ≤ 8) ∧ (-8 ≤ b ∧ b ≤ 8) ∧ (-8 ≤ c ∧ c ≤ 8)) : Sound Try.prog 123 [.agg #[vI a, vI b, vI c], .agg #[vI 0, vI 0, vI 1]] [] (.agg #[vI a, vI b, vI (c + 1)]) [] := by
  refine sound_intro (C := cx) Try.func123 rfl (by kernel_rfl) fun hcl => ?_
  refine cSeq ?_
  refine cReg ?_
  refine segEnd [2, 3, 4] (T1 := (mkT 21 [(2, vP 0 0), (3, vP 1 0), (4, vP 2 0)])) (H1 := [rB [vI a, vI b, vI c] 74, rB [vI 0, vI 0, vI 1] 74, rB [vI 0, vI 0, vI 0] 74]) (by kernel_rfl) ?_
  refine kSeq ?_
  refine cSeq ?_
  refine cReg ?_
  refine segH 4 (T1 := (mkT 21 [(2, vP 0 0), (3, vP 1 0), (4, vP 2 0), (5, vP 0 0), (6, vI a), (7, vP 1 0), (8, vI 0)])) (by kernel_rfl) ?_
  refine rOp (v := vI a) (by kernel_rfl) (eAdd (k := .i64) (a := a) (b := 0) (c := a) (by kernel_rfl) (by kernel_rfl) (wr64 (by omega) (by omega) (by omega))) ?_
  refine segH 4 (T1 := (mkT 21 [(2, vP 0 0), (3, vP 1 0), (4, vP 2 0), (5, vP 0 0), (6, vI a), (7, vP 1 0), (8, vI 0), (9, vI a), (10, vP 0 1), (11, vI b), (12, vP 1 1), (13, vI 0)])) (by kernel_rfl) ?_
  refine rOp (v := vI b) (by kernel_rfl) (eAdd (k := .i64) (a := b) (b := 0) (c := b) (by kernel_rfl) (by kernel_rfl) (wr64 (by omega) (by omega) (by omega))) ?_
  refine segH 4 (T1 := (mkT 21 [(2, vP 0 0), (3, vP 1 0), (4, vP 2 0), (5, vP 0 0), (6, vI a), (7, vP 1 0), (8, vI 0), (9, vI a), (10, vP 0 1), (11, vI b), (12, vP 1 1), (13, vI 0), (14, vI b), (15, vP 0 2), (16, vI c), (17, vP 1 2), (18, vI 1)])) (by kernel_rfl) ?_
  refine rOp (v := vI (c + 1)) (by kernel_rfl) (eAdd (k := .i64) (a := c) (b := 1) (c := (c + 1)) (by kernel_rfl) (by kernel_rfl) (wr64 (by omega) (by omega) (by omega))) ?_
  refine segEnd [4] (T1 := (mkT 21 [(4, vP 2 0)])) (H1 := [rB [vI a, vI b, vI c] 74, rB [vI 0, vI 0, vI 1] 74, rB [vI a, vI b, vI (c + 1)] 74]) (by kernel_rfl) ?_
  refine kSeq ?_
  refine cRet ?_
  -- end
  exact endQ (Or.inr rfl) (l := [.agg #[vI a, vI b, vI (c + 1)]]) [rB [vI a, vI b, vI c] 74, rB [vI 0, vI 0, vI 1] 74, rB [vI a, vI b, vI (c + 1)] 74] (by kernel_rfl) (by first | rfl | kernel_rfl) rfl rfl hcl rfl

set_option maxRecDepth 100000 in
set_option maxHeartbeats 4000000 in
theorem beyond5 (a : Int) (b : Int) (c : Int) (hb : (-8 ≤ a ∧ a ≤ 8) ∧ (-8 ≤ b ∧ b ≤ 8) ∧ (-8 ≤ c ∧ c ≤ 8)) : Sound Try.prog 125 [.agg #[vI a, vI b, vI c], vI 5] [] (.agg #[vI a, vI b, vI (c + 1)]) [] := by
  refine sound_intro (C := cx) Try.func125 rfl (by kernel_rfl) fun hcl => ?_
  refine cSeq ?_
  refine cReg ?_
  refine segEnd [1, 2, 4] (T1 := (mkT 16 [(1, vI 5), (2, vP 0 0), (4, vP 1 0)])) (H1 := [rB [vI a, vI b, vI c] 74, rB [vI 0, vI 0, vI 0] 74]) (by kernel_rfl) ?_
  refine kSeq ?_
  refine cSeq ?_
  refine cReg ?_
  refine segH 8 (T1 := (mkT 16 [(1, vI 5), (2, vP 0 0), (4, vP 1 0), (5, vI 5), (6, vI 2), (7, vP 0 2), (8, vI c), (9, vI 5), (10, vI 1), (11, vI 2), (12, vI 1)])) (by kernel_rfl) ?_
  refine rOp (v := vI (c + 1)) (by kernel_rfl) (eAdd (k := .i64) (a := c) (b := 1) (c := (c + 1)) (by kernel_rfl) (by kernel_rfl) (wr64 (by omega) (by omega) (by omega))) ?_
  refine segEnd [2, 4] (T1 := (mkT 16 [(2, vP 0 0), (4, vP 1 0)])) (H1 := [rB [vI a, vI b, vI (c + 1)] 74, rB [vI 0, vI 0, vI 0] 74]) (by kernel_rfl) ?_
  refine kSeq ?_
  refine cSeq ?_
  refine cReg ?_
  refine segEnd [4] (T1 := (mkT 16 [(4, vP 1 0)])) (H1 := [rB [vI a, vI b, vI (c + 1)] 74, rB [vI a, vI b, vI (c + 1)] 74]) (by kernel_rfl) ?_
  refine kSeq ?_
  refine cRet ?_
  -- end
  exact endQ (Or.inr rfl) (l := [.agg #[vI a, vI b, vI (c + 1)]]) [rB [vI a, vI b, vI (c + 1)] 74, rB [vI a, vI b, vI (c + 1)] 74] (by kernel_rfl) (by first | rfl | kernel_rfl) rfl rfl hcl rfl

set_option maxRecDepth 100000 in
set_option maxHeartbeats 4000000 in
theorem isBareB (X : Nat) (Y : Nat) (Z : Nat) (L : List A3) (a : Int) (b : Int) (c : Int) (hs : Sides X Y Z) (hL : HeapL X Y Z L) : Sound Try.prog 124 [.agg #[vN X, vN Y, vN Z, vS 0 L.length], .agg #[vI a, vI b, vI c]] [some ⟨a3s L, 74, false, false⟩] (.bool (!hasL L a b c)) [some ⟨a3s L, 74, false, false⟩] := by
  refine sound_intro (C := cx) Try.func124 rfl (by kernel_rfl) fun hcl => ?_
  have hz := hs.size
  have hx0 := hs.x0
  have hx4 := hs.x4
  have hy0 := hs.y0
  have hy4 := hs.y4
  have hz0 := hs.z0
  have hz4 := hs.z4
  have hlen := hL.len
  have hlt := hL.lt64 hs
  refine cSeq ?_
  refine cReg ?_
  refine segEnd [2, 3] (T1 := (mkT 16 [(2, vP 1 0), (3, vP 2 0)])) (H1 := [some ⟨a3s L, 74, false, false⟩, rB [vN X, vN Y, vN Z, vS 0 L.length] 40, rB [vI a, vI b, vI c] 74]) (by kernel_rfl) ?_
  refine kSeq ?_
  refine cSeq ?_
  refine cRegW (N := 3) [⟨[], [], [1]⟩, ⟨[], [], [0]⟩, ⟨[], [], [2]⟩, ⟨[], [], []⟩, ⟨[], [], []⟩, ⟨[], [], []⟩, ⟨[], [], [1]⟩, ⟨[], [], [2]⟩, ⟨[], [], [0]⟩, ⟨[], [], []⟩, ⟨[], [], []⟩, ⟨[], [], []⟩] 0 [] (by rfl) (by rfl) (by kernel_rfl) (by kernel_rfl) (by kernel_rfl) ⟨nmsF (flatA3 _ _ _ _), ⟨nmsX (by kernel_rfl), ⟨nmsX (by kernel_rfl), trivial⟩⟩⟩ ?_
  refine segWH 1 (T1 := (mkT 16 [(2, vP 1 0), (3, vP 2 0), (5, .agg #[vN X, vN Y, vN Z, vS 0 L.length])])) (by kernel_rfl) ?_
  refine rW (m := ⟨[], [], [0]⟩) (v := .agg #[vN X, vN Y, vN Z]) rfl (by kernel_rfl) (stQ (args := [.agg #[vN X, vN Y, vN Z, vS 0 L.length]]) rfl (by kernel_rfl) (Any.lay0 [0] (boxB ((X : Nat) : Int) ((Y : Nat) : Int) ((Z : Nat) : Int) L) ⟨rdF false (flatA3 _ _ _ _) rfl rfl, trivial⟩ rfl ⟨clF (flatA3 _ _ _ _), trivial⟩ rfl (by first | rfl | simp [mpV, mpA, mpS, mpP, renId, shift]) (by first | rfl | simp [mpV, mpA, mpS, mpP, renId, shift])) rfl (by kernel_rfl) (by kernel_rfl)) (by kernel_rfl) nr0 ?_
  refine segWH 1 (T1 := (mkT 16 [(2, vP 1 0), (3, vP 2 0), (5, .agg #[vN X, vN Y, vN Z, vS 0 L.length]), (6, .agg #[vN X, vN Y, vN Z]), (7, .agg #[vI a, vI b, vI c])])) (by kernel_rfl) ?_
  refine rW (m := ⟨[], [], []⟩) (v := .bool (has3 (X : Int) (Y : Int) (Z : Int) a b c)) rfl (by kernel_rfl) (stQ (args := [.agg #[vN X, vN Y, vN Z], .agg #[vI a, vI b, vI c]]) rfl (by kernel_rfl) (Any.lay0 [] (hasB X Y Z a b c (by first | assumption | omega | rfl | decide | exact HeapL.list _ _ _ _ | exact HeapL.nil _ _ _ | exact HeapL.all _ _ _ | (apply HeapL.lt64 <;> assumption) | (repeat' (first | assumption | apply or_lt64 | apply and_lt64 | apply andn_lt64 | apply pow_lt64 | (apply HeapL.lt64 <;> assumption))))) trivial rfl trivial rfl (by first | rfl | simp [mpV, mpA, mpS, mpP, renId, shift]) rfl) rfl (by kernel_rfl) (by kernel_rfl)) (by kernel_rfl) nr0 ?_
  refine segWH 2 (T1 := (mkT 16 [(2, vP 1 0), (3, vP 2 0), (5, .agg #[vN X, vN Y, vN Z, vS 0 L.length]), (6, .agg #[vN X, vN Y, vN Z]), (7, .agg #[vI a, vI b, vI c]), (8, .bool (has3 (X : Int) (Y : Int) (Z : Int) a b c)), (9, .bool (!(has3 (X : Int) (Y : Int) (Z : Int) a b c))), (10, .bool (!(has3 (X : Int) (Y : Int) (Z : Int) a b c)))])) (by kernel_rfl) ?_
  cases h1 : (has3 (X : Int) (Y : Int) (Z : Int) a b c : Bool)
  ·
    have h1k := h1
    (try simp only [Bool.not_eq_true', Bool.not_eq_false', decide_eq_true_eq, decide_eq_false_iff_not, beq_iff_eq, bne_iff_ne, beq_eq_false_iff_ne, bne_eq_false_iff_eq, ne_eq, Decidable.not_not, Bool.and_eq_true, Bool.and_eq_false_imp, Bool.or_eq_true, Bool.or_eq_false_iff, Bool.not_eq_true, Int.not_lt, Int.not_le, ge_iff_le, gt_iff_lt] at h1)
    refine segEndW [4] (T1 := (mkT 16 [(4, .bool true)])) (H1 := [some ⟨a3s L, 74, false, false⟩, rB [vN X, vN Y, vN Z, vS 0 L.length] 40, rB [vI a, vI b, vI c] 74]) (by kernel_rfl) ?_
    refine kSeq ?_
    refine cRet ?_
    -- end
    have he0 : (true : Bool) = (!hasL L a b c) := by first | rfl | (rw [hasL_out hL hs (by assumption)]; rfl) | (simp_all; done)
    refine endCast (v1 := .bool true) (H1 := [some ⟨a3s L, 74, false, false⟩]) (by first | rfl | ((try rw [← he0]); done) | (simp only [← he0]; done)) (by first | rfl | ((try rw [← he0]); done) | (simp only [← he0]; done)) ?_
    exact endQ (Or.inr rfl) (l := [.bool true]) [rB [vN X, vN Y, vN Z, vS 0 L.length] 40, rB [vI a, vI b, vI c] 74] (by kernel_rfl) (by first | rfl | kernel_rfl) rfl rfl hcl rfl
  ·
    have h1k := h1
    (try simp only [Bool.not_eq_true', Bool.not_eq_false', decide_eq_true_eq, decide_eq_false_iff_not, beq_iff_eq, bne_iff_ne, beq_eq_false_iff_ne, bne_eq_false_iff_eq, ne_eq, Decidable.not_not, Bool.and_eq_true, Bool.and_eq_false_imp, Bool.or_eq_true, Bool.or_eq_false_iff, Bool.not_eq_true, Int.not_lt, Int.not_le, ge_iff_le, gt_iff_lt] at h1)
    refine segWH 2 (T1 := (mkT 16 [(2, vP 1 0), (3, vP 2 0), (5, .agg #[vN X, vN Y, vN Z, vS 0 L.length]), (6, .agg #[vN X, vN Y, vN Z]), (7, .agg #[vI a, vI b, vI c]), (8, .bool true), (9, .bool false), (10, .bool false), (11, .agg #[vN X, vN Y, vN Z, vS 0 L.length]), (12, .agg #[vI a, vI b, vI c])])) (by kernel_rfl) ?_
    refine rW (m := ⟨[], [], [0]⟩) (v := .bool (hasL L a b c)) rfl (by kernel_rfl) (stQ (args := [.agg #[vN X, vN Y, vN Z, vS 0 L.length], .agg #[vI a, vI b, vI c]]) rfl (by kernel_rfl) (Any.lay0 [0] (hasCubeB X Y Z L a b c (by first | assumption | omega | rfl | decide | exact HeapL.list _ _ _ _ | exact HeapL.nil _ _ _ | exact HeapL.all _ _ _ | (apply HeapL.lt64 <;> assumption) | (repeat' (first | assumption | apply or_lt64 | apply and_lt64 | apply andn_lt64 | apply pow_lt64 | (apply HeapL.lt64 <;> assumption)))) (by first | assumption | omega | rfl | decide | exact HeapL.list _ _ _ _ | exact HeapL.nil _ _ _ | exact HeapL.all _ _ _ | (apply HeapL.lt64 <;> assumption) | (repeat' (first | assumption | apply or_lt64 | apply and_lt64 | apply andn_lt64 | apply pow_lt64 | (apply HeapL.lt64 <;> assumption)))) (by first | assumption | omega | rfl | decide | exact HeapL.list _ _ _ _ | exact HeapL.nil _ _ _ | exact HeapL.all _ _ _ | (apply HeapL.lt64 <;> assumption) | (repeat' (first | assumption | apply or_lt64 | apply and_lt64 | apply andn_lt64 | apply pow_lt64 | (apply HeapL.lt64 <;> assumption))))) ⟨rdF false (flatA3 _ _ _ _) rfl rfl, trivial⟩ rfl ⟨clF (flatA3 _ _ _ _), trivial⟩ rfl (by first | rfl | simp [mpV, mpA, mpS, mpP, renId, shift]) rfl) rfl (by kernel_rfl) (by kernel_rfl)) (by kernel_rfl) nr0 ?_
    refine segEndW [4] (T1 := (mkT 16 [(4, .bool (!(hasL L a b c)))])) (H1 := [some ⟨a3s L, 74, false, false⟩, rB [vN X, vN Y, vN Z, vS 0 L.length] 40, rB [vI a, vI b, vI c] 74]) (by kernel_rfl) ?_
    refine kSeq ?_
    refine cRet ?_
    -- end
    have he0 : (!(hasL L a b c) : Bool) = (!hasL L a b c) := by first | rfl | (rw [hasL_out hL hs (by assumption)]; rfl) | (simp_all; done)
    refine endCast (v1 := .bool (!(hasL L a b c))) (H1 := [some ⟨a3s L, 74, false, false⟩]) (by first | rfl | ((try rw [← he0]); done) | (simp only [← he0]; done)) (by first | rfl | ((try rw [← he0]); done) | (simp only [← he0]; done)) ?_
    exact endQ (Or.inr rfl) (l := [.bool (!(hasL L a b c))]) [rB [vN X, vN Y, vN Z, vS 0 L.length] 40, rB [vI a, vI b, vI c] 74] (by kernel_rfl) (by first | rfl | kernel_rfl) rfl rfl hcl rfl

set_option maxRecDepth 100000 in
set_option maxHeartbeats 4000000 in
theorem l6BareB (X : Nat) (Y : Nat) (Z : Nat) (L : List A3) (hs : Sides X Y Z) (hL : HeapL X Y Z L) : Sound Try.prog 91 [.agg #[vN X, vN Y, vN Z, vS 0 L.length], vS 1 0] [some ⟨a3s L, 74, false, false⟩, some ⟨[], 74, false, false⟩] (.agg #[vN (cntF L 0 L.length), vN (cntF L 1 L.length), vN (cntF L 2 L.length), vN (cntF L 3 L.length), vN (cntF L 4 L.length), vN (cntF L 5 L.length)]) [some ⟨a3s L, 74, false, false⟩, some ⟨[], 74, false, false⟩] := by
  refine sound_intro (C := cx) Try.func91 rfl (by kernel_rfl) fun hcl => ?_
  have hz := hs.size
  have hx0 := hs.x0
  have hx4 := hs.x4
  have hy0 := hs.y0
  have hy4 := hs.y4
  have hz0 := hs.z0
  have hz4 := hs.z4
  have hlen := hL.len
  have hlt := hL.lt64 hs
  have hsm := hL.small hs
  refine cSeq ?_
  refine cReg ?_
  refine segEnd [1, 2, 4] (T1 := (mkT 52 [(1, vS 1 0), (2, vP 2 0), (4, vP 3 0)])) (H1 := [some ⟨a3s L, 74, false, false⟩, some ⟨[], 74, false, false⟩, rB [vN X, vN Y, vN Z, vS 0 L.length] 40, rB [vI 0, vI 0, vI 0, vI 0, vI 0, vI 0] 57]) (by kernel_rfl) ?_
  refine kSeq ?_
  refine cSeq ?_
  refine cReg ?_
  refine segH 1 (T1 := (mkT 52 [(1, vS 1 0), (2, vP 2 0), (4, vP 3 0), (11, .agg #[vI 0, vI 0, vI 0, vI 0, vI 0, vI 0])])) (by kernel_rfl) ?_
  refine rCall (v := .agg #[vI (-1), vI 0, vI 0, vI 1, vI 0, vI 0, vI 0, vI (-1), vI 0, vI 0, vI 1, vI 0, vI 0, vI 0, vI (-1), vI 0, vI 0, vI 1]) (args := []) (by kernel_rfl) rfl (by kernel_rfl) (Sound.lay0 [] (l6Steps) trivial rfl trivial rfl (by first | rfl | simp [mpV, mpA, mpS, mpP, renId, shift]) (by first | rfl | simp [mpV, mpA, mpS, mpP, renId, shift])) ?_
  refine segEnd [1, 2, 4, 5, 6] (T1 := (mkT 52 [(1, vS 1 0), (2, vP 2 0), (4, vP 3 0), (5, vP 4 0), (6, vP 5 0)])) (H1 := [some ⟨a3s L, 74, false, false⟩, some ⟨[], 74, false, false⟩, rB [vN X, vN Y, vN Z, vS 0 L.length] 40, rB [vI 0, vI 0, vI 0, vI 0, vI 0, vI 0] 57, rB [vI 0, vI 0, vI 0, vI 0, vI 0, vI 0] 57, rB [vI (-1), vI 0, vI 0, vI 1, vI 0, vI 0, vI 0, vI (-1), vI 0, vI 0, vI 1, vI 0, vI 0, vI 0, vI (-1), vI 0, vI 0, vI 1] 118]) (by kernel_rfl) ?_
  refine kSeq ?_
  refine cSeq ?_
  refine cReg ?_
  refine segH 2 (T1 := (mkT 52 [(1, vS 1 0), (2, vP 2 0), (4, vP 3 0), (5, vP 4 0), (6, vP 5 0), (13, .agg #[vN X, vN Y, vN Z, vS 0 L.length]), (14, vS 1 0)])) (by kernel_rfl) ?_
  refine rCall (v := .agg #[vN X, vN Y, vN Z, vS 1 (([] : List A3).length)]) (args := [.agg #[vN X, vN Y, vN Z, vS 0 L.length], vS 1 0]) (by kernel_rfl) rfl (by kernel_rfl) (Sound.lay0 [0, 1] (l2MadeB ((X : Nat) : Int) ((Y : Nat) : Int) ((Z : Nat) : Int) L ([] : List A3)) ⟨rdF false (flatA3 _ _ _ _) rfl rfl, ⟨rdF false (flatA3 _ _ _ _) rfl rfl, trivial⟩⟩ rfl ⟨clF (flatA3 _ _ _ _), ⟨clF (flatA3 _ _ _ _), trivial⟩⟩ rfl (by first | rfl | simp [mpV, mpA, mpS, mpP, renId, shift]) (by first | rfl | simp [mpV, mpA, mpS, mpP, renId, shift])) ?_
  refine segEnd [2, 4, 5, 6, 7] (T1 := (mkT 52 [(2, vP 2 0), (4, vP 3 0), (5, vP 4 0), (6, vP 5 0), (7, vP 6 0)])) (H1 := [some ⟨a3s L, 74, false, false⟩, some ⟨[], 74, false, false⟩, rB [vN X, vN Y, vN Z, vS 0 L.length] 40, rB [vI 0, vI 0, vI 0, vI 0, vI 0, vI 0] 57, rB [vI 0, vI 0, vI 0, vI 0, vI 0, vI 0] 57, rB [vI (-1), vI 0, vI 0, vI 1, vI 0, vI 0, vI 0, vI (-1), vI 0, vI 0, vI 1, vI 0, vI 0, vI 0, vI (-1), vI 0, vI 0, vI 1] 118, rB [vN X, vN Y, vN Z, vS 1 (([] : List A3).length)] 40]) (by kernel_rfl) ?_
  refine kSeq ?_
  refine cSeq ?_
  refine cSeq ?_
  refine cReg ?_
  refine segEndH [2, 4, 5, 6, 7, 8] (T1 := (mkT 52 [(2, vP 2 0), (4, vP 3 0), (5, vP 4 0), (6, vP 5 0), (7, vP 6 0), (8, vI 0)])) (by kernel_rfl) ?_
  refine kSeq ?_
  refine cBlk ?_
  -- loop
  refine cLoop (fun mm T H => ∃ i : Nat, ∃ n0 : Nat, ∃ n1 : Nat, ∃ n2 : Nat, ∃ n3 : Nat, ∃ n4 : Nat, ∃ n5 : Nat, (i ≤ L.length) ∧ (n0 = cntF L 0 i) ∧ (n1 = cntF L 1 i) ∧ (n2 = cntF L 2 i) ∧ (n3 = cntF L 3 i) ∧ (n4 = cntF L 4 i) ∧ (n5 = cntF L 5 i) ∧ mm = L.length - i ∧ T = (mkT 52 [(2, vP 2 0), (4, vP 3 0), (5, vP 4 0), (6, vP 5 0), (7, vP 6 0), (8, vN i)]) ∧ H = [some ⟨a3s L, 74, false, false⟩, some ⟨[], 74, false, false⟩, rB [vN X, vN Y, vN Z, vS 0 L.length] 40, rB [vI 0, vI 0, vI 0, vI 0, vI 0, vI 0] 57, rB [vN n0, vN n1, vN n2, vN n3, vN n4, vN n5] 57, rB [vI (-1), vI 0, vI 0, vI 1, vI 0, vI 0, vI 0, vI (-1), vI 0, vI 0, vI 1, vI 0, vI 0, vI 0, vI (-1), vI 0, vI 0, vI 1] 118, rB [vN X, vN Y, vN Z, vS 1 (([] : List A3).length)] 40]) (L.length - 0) (mkT 52 [(2, vP 2 0), (4, vP 3 0), (5, vP 4 0), (6, vP 5 0), (7, vP 6 0), (8, vI 0)]) [some ⟨a3s L, 74, false, false⟩, some ⟨[], 74, false, false⟩, rB [vN X, vN Y, vN Z, vS 0 L.length] 40, rB [vI 0, vI 0, vI 0, vI 0, vI 0, vI 0] 57, rB [vI 0, vI 0, vI 0, vI 0, vI 0, vI 0] 57, rB [vI (-1), vI 0, vI 0, vI 1, vI 0, vI 0, vI 0, vI (-1), vI 0, vI 0, vI 1, vI 0, vI 0, vI 0, vI (-1), vI 0, vI 0, vI 1] 118, rB [vN X, vN Y, vN Z, vS 1 (([] : List A3).length)] 40] (wkSame [2, 4, 5, 6, 7, 8] (by kernel_rfl)) ?_ ?_
  · exact ⟨0, 0, 0, 0, 0, 0, 0, (Nat.zero_le _), (rfl), (rfl), (rfl), (rfl), (rfl), (rfl), rfl, rfl, rfl⟩
  · rintro _ _ _ ⟨i, n0, n1, n2, n3, n4, n5, hi, hn0, hn1, hn2, hn3, hn4, hn5, rfl, rfl, rfl⟩
    refine cSeq ?_
    refine cSeq ?_
    refine cReg ?_
    refine segEndH [2, 4, 5, 6, 7, 8, 20] (T1 := (mkT 52 [(2, vP 2 0), (4, vP 3 0), (5, vP 4 0), (6, vP 5 0), (7, vP 6 0), (8, vN i), (20, .bool (decide (((i : Nat) : Int) < ((L.length : Nat) : Int))))])) (by kernel_rfl) ?_
    refine kSeq ?_
    cases h1 : (decide (((i : Nat) : Int) < ((L.length : Nat) : Int)) : Bool)
    ·
      have h1k := h1
      (try simp only [Bool.not_eq_true', Bool.not_eq_false', decide_eq_true_eq, decide_eq_false_iff_not, beq_iff_eq, bne_iff_ne, beq_eq_false_iff_ne, bne_eq_false_iff_eq, ne_eq, Decidable.not_not, Bool.and_eq_true, Bool.and_eq_false_imp, Bool.or_eq_true, Bool.or_eq_false_iff, Bool.not_eq_true, Int.not_lt, Int.not_le, ge_iff_le, gt_iff_lt] at h1)
      refine cFalse (by kernel_rfl) ?_
      refine cExit ?_
      refine kSeqE ?_
      refine kLoopE ?_
      refine kBlkHit ?_
      refine kSeq ?_
      refine cSeq ?_
      refine cReg ?_
      refine segEnd [4] (T1 := (mkT 52 [(4, vP 3 0)])) (H1 := [some ⟨a3s L, 74, false, false⟩, some ⟨[], 74, false, false⟩, rB [vN X, vN Y, vN Z, vS 0 L.length] 40, rB [vN n0, vN n1, vN n2, vN n3, vN n4, vN n5] 57, rB [vN n0, vN n1, vN n2, vN n3, vN n4, vN n5] 57, rB [vI (-1), vI 0, vI 0, vI 1, vI 0, vI 0, vI 0, vI (-1), vI 0, vI 0, vI 1, vI 0, vI 0, vI 0, vI (-1), vI 0, vI 0, vI 1] 118, rB [vN X, vN Y, vN Z, vS 1 (([] : List A3).length)] 40]) (by kernel_rfl) ?_
      refine kSeq ?_
      refine cRet ?_
      -- end
      have he0 : (n0 : Nat) = cntF L 0 L.length := by (have e : i = L.length := by omega); first | (rw [hn0, e]; done) | (rw [hn1, e]; done) | (rw [hn2, e]; done) | (rw [hn3, e]; done) | (rw [hn4, e]; done) | (rw [hn5, e]; done)
      have he1 : (n1 : Nat) = cntF L 1 L.length := by (have e : i = L.length := by omega); first | (rw [hn0, e]; done) | (rw [hn1, e]; done) | (rw [hn2, e]; done) | (rw [hn3, e]; done) | (rw [hn4, e]; done) | (rw [hn5, e]; done)
      have he2 : (n2 : Nat) = cntF L 2 L.length := by (have e : i = L.length := by omega); first | (rw [hn0, e]; done) | (rw [hn1, e]; done) | (rw [hn2, e]; done) | (rw [hn3, e]; done) | (rw [hn4, e]; done) | (rw [hn5, e]; done)
      have he3 : (n3 : Nat) = cntF L 3 L.length := by (have e : i = L.length := by omega); first | (rw [hn0, e]; done) | (rw [hn1, e]; done) | (rw [hn2, e]; done) | (rw [hn3, e]; done) | (rw [hn4, e]; done) | (rw [hn5, e]; done)
      have he4 : (n4 : Nat) = cntF L 4 L.length := by (have e : i = L.length := by omega); first | (rw [hn0, e]; done) | (rw [hn1, e]; done) | (rw [hn2, e]; done) | (rw [hn3, e]; done) | (rw [hn4, e]; done) | (rw [hn5, e]; done)
      have he5 : (n5 : Nat) = cntF L 5 L.length := by (have e : i = L.length := by omega); first | (rw [hn0, e]; done) | (rw [hn1, e]; done) | (rw [hn2, e]; done) | (rw [hn3, e]; done) | (rw [hn4, e]; done) | (rw [hn5, e]; done)
      refine endCast (v1 := .agg #[vN n0, vN n1, vN n2, vN n3, vN n4, vN n5]) (H1 := [some ⟨a3s L, 74, false, false⟩, some ⟨[], 74, false, false⟩]) (by first | rfl | ((try rw [← he0]); (try rw [← he1]); (try rw [← he2]); (try rw [← he3]); (try rw [← he4]); (try rw [← he5]); done) | (simp only [← he0, ← he1, ← he2, ← he3, ← he4, ← he5]; done)) (by first | rfl | ((try rw [← he0]); (try rw [← he1]); (try rw [← he2]); (try rw [← he3]); (try rw [← he4]); (try rw [← he5]); done) | (simp only [← he0, ← he1, ← he2, ← he3, ← he4, ← he5]; done)) ?_
      exact endQ (Or.inr rfl) (l := [.agg #[vN n0, vN n1, vN n2, vN n3, vN n4, vN n5]]) [rB [vN X, vN Y, vN Z, vS 0 L.length] 40, rB [vN n0, vN n1, vN n2, vN n3, vN n4, vN n5] 57, rB [vN n0, vN n1, vN n2, vN n3, vN n4, vN n5] 57, rB [vI (-1), vI 0, vI 0, vI 1, vI 0, vI 0, vI 0, vI (-1), vI 0, vI 0, vI 1, vI 0, vI 0, vI 0, vI (-1), vI 0, vI 0, vI 1] 118, rB [vN X, vN Y, vN Z, vS 1 (([] : List A3).length)] 40] (by kernel_rfl) (by first | rfl | kernel_rfl) rfl rfl hcl rfl
    ·
      have h1k := h1
      (try simp only [Bool.not_eq_true', Bool.not_eq_false', decide_eq_true_eq, decide_eq_false_iff_not, beq_iff_eq, bne_iff_ne, beq_eq_false_iff_ne, bne_eq_false_iff_eq, ne_eq, Decidable.not_not, Bool.and_eq_true, Bool.and_eq_false_imp, Bool.or_eq_true, Bool.or_eq_false_iff, Bool.not_eq_true, Int.not_lt, Int.not_le, ge_iff_le, gt_iff_lt] at h1)
      have hc0 := hsm.at (i := i) (by omega)
      refine cTrue (by kernel_rfl) ?_
      refine cSkip ?_
      refine kSeq ?_
      refine cSeq ?_
      refine cBlk ?_
      refine cSeq ?_
      refine cReg ?_
      refine segEndH [2, 4, 5, 6, 7, 8, 9] (T1 := (mkT 52 [(2, vP 2 0), (4, vP 3 0), (5, vP 4 0), (6, vP 5 0), (7, vP 6 0), (8, vN i), (9, vI 0)])) (by kernel_rfl) ?_
      refine kSeq ?_
      refine cBlk ?_
      -- loop
      refine cLoop (fun mm T H => ∃ f : Nat, ∃ m0 : Nat, ∃ m1 : Nat, ∃ m2 : Nat, ∃ m3 : Nat, ∃ m4 : Nat, ∃ m5 : Nat, (f ≤ 6) ∧ (m0 = cntF L 0 (i + stp 0 f)) ∧ (m1 = cntF L 1 (i + stp 1 f)) ∧ (m2 = cntF L 2 (i + stp 2 f)) ∧ (m3 = cntF L 3 (i + stp 3 f)) ∧ (m4 = cntF L 4 (i + stp 4 f)) ∧ (m5 = cntF L 5 (i + stp 5 f)) ∧ mm = 6 - f ∧ T = (mkT 52 [(2, vP 2 0), (4, vP 3 0), (5, vP 4 0), (6, vP 5 0), (7, vP 6 0), (8, vN i), (9, vN f)]) ∧ H = [some ⟨a3s L, 74, false, false⟩, some ⟨[], 74, false, false⟩, rB [vN X, vN Y, vN Z, vS 0 L.length] 40, rB [vI 0, vI 0, vI 0, vI 0, vI 0, vI 0] 57, rB [vN m0, vN m1, vN m2, vN m3, vN m4, vN m5] 57, rB [vI (-1), vI 0, vI 0, vI 1, vI 0, vI 0, vI 0, vI (-1), vI 0, vI 0, vI 1, vI 0, vI 0, vI 0, vI (-1), vI 0, vI 0, vI 1] 118, rB [vN X, vN Y, vN Z, vS 1 (([] : List A3).length)] 40]) (6 - 0) (mkT 52 [(2, vP 2 0), (4, vP 3 0), (5, vP 4 0), (6, vP 5 0), (7, vP 6 0), (8, vN i), (9, vI 0)]) [some ⟨a3s L, 74, false, false⟩, some ⟨[], 74, false, false⟩, rB [vN X, vN Y, vN Z, vS 0 L.length] 40, rB [vI 0, vI 0, vI 0, vI 0, vI 0, vI 0] 57, rB [vN n0, vN n1, vN n2, vN n3, vN n4, vN n5] 57, rB [vI (-1), vI 0, vI 0, vI 1, vI 0, vI 0, vI 0, vI (-1), vI 0, vI 0, vI 1, vI 0, vI 0, vI 0, vI (-1), vI 0, vI 0, vI 1] 118, rB [vN X, vN Y, vN Z, vS 1 (([] : List A3).length)] 40] (wkSame [2, 4, 5, 6, 7, 8, 9] (by kernel_rfl)) ?_ ?_
      · exact ⟨0, n0, n1, n2, n3, n4, n5, (Nat.zero_le _), (hn0), (hn1), (hn2), (hn3), (hn4), (hn5), rfl, rfl, rfl⟩
      · rintro _ _ _ ⟨f, m0, m1, m2, m3, m4, m5, hf, hm0, hm1, hm2, hm3, hm4, hm5, rfl, rfl, rfl⟩
        have hq0 : m0 ≤ L.length := hm0 ▸ cntF_le _ _ _; have hq1 : m1 ≤ L.length := hm1 ▸ cntF_le _ _ _; have hq2 : m2 ≤ L.length := hm2 ▸ cntF_le _ _ _; have hq3 : m3 ≤ L.length := hm3 ▸ cntF_le _ _ _; have hq4 : m4 ≤ L.length := hm4 ▸ cntF_le _ _ _; have hq5 : m5 ≤ L.length := hm5 ▸ cntF_le _ _ _
        have hcase : f = 0 ∨ f = 1 ∨ f = 2 ∨ f = 3 ∨ f = 4 ∨ f = 5 ∨ f = 6 := by omega
        rcases hcase with rfl | rfl | rfl | rfl | rfl | rfl | rfl
        ·
          refine cSeq ?_
          refine cSeq ?_
          refine cReg ?_
          refine segEndH [2, 4, 5, 6, 7, 8, 9, 24] (T1 := (mkT 52 [(2, vP 2 0), (4, vP 3 0), (5, vP 4 0), (6, vP 5 0), (7, vP 6 0), (8, vN i), (9, vI 0), (24, .bool true)])) (by kernel_rfl) ?_
          refine kSeq ?_
          refine cTrue (by kernel_rfl) ?_
          refine cSkip ?_
          refine kSeq ?_
          refine cSeq ?_
          refine cBlk ?_
          refine cSeq ?_
          refine cRegW (N := 8) [⟨[], [], []⟩, ⟨[], [], [2]⟩, ⟨[], [], []⟩, ⟨[], [], []⟩, ⟨[], [], [0]⟩, ⟨[], [], []⟩, ⟨[], [], []⟩, ⟨[], [], [5]⟩, ⟨[], [], []⟩, ⟨[7], [], []⟩, ⟨[], [7], []⟩] 1 [7] (by rfl) (by rfl) (by kernel_rfl) (by kernel_rfl) (by kernel_rfl) ⟨nmsF (flatA3 _ _ _ _), ⟨nmsX (by kernel_rfl), ⟨nmsX (by kernel_rfl), ⟨nmsX (by kernel_rfl), ⟨nmsX (by kernel_rfl), ⟨nmsX (by kernel_rfl), ⟨nmsX (by kernel_rfl), trivial⟩⟩⟩⟩⟩⟩⟩ ?_
          refine segWH 3 (T1 := (mkT 52 [(2, vP 2 0), (4, vP 3 0), (5, vP 4 0), (6, vP 5 0), (7, vP 6 0), (8, vN i), (9, vI 0), (24, .bool true), (27, vP 2 3), (28, vS 0 L.length), (29, vN i)])) (by kernel_rfl) ?_
          refine rW (m := ⟨[], [], []⟩) (v := vP 0 (i * 3)) rfl (by kernel_rfl) (stId (eIdxS (ad := ⟨0, 0, none⟩) (n := L.length) (m := 0) (k := .i64) (c := ((i : Nat) : Int)) (j := i) (o := i * 3) (by kernel_rfl) (by kernel_rfl) ti31 ti74 (rfl) (by omega) (by exact Nat.zero_add _)) rfl (by kernel_rfl) (by kernel_rfl) (by kernel_rfl)) (by kernel_rfl) nr0 ?_
          refine rW (m := ⟨[], [], [0]⟩) (v := .agg #[vI ((L.getD i default).x), vI ((L.getD i default).y), vI ((L.getD i default).z)]) rfl (by kernel_rfl) (stId (eLdA3 (ad := ⟨0, i * 3, none⟩) (r := ⟨a3s L, 74, false, false⟩) (L := L) (j := i) (by kernel_rfl) (by kernel_rfl) rfl (by first | rfl | omega) (by omega) ti74) rfl (by kernel_rfl) (by kernel_rfl) (by kernel_rfl)) (by kernel_rfl) nr0 ?_
          refine segWH 3 (T1 := (mkT 52 [(2, vP 2 0), (4, vP 3 0), (5, vP 4 0), (6, vP 5 0), (7, vP 6 0), (8, vN i), (9, vI 0), (24, .bool true), (27, vP 2 3), (28, vS 0 L.length), (29, vN i), (30, vP 0 (i * 3)), (31, .agg #[vI ((L.getD i default).x), vI ((L.getD i default).y), vI ((L.getD i default).z)]), (32, vI 0), (33, vP 5 0), (34, .agg #[vI (-1), vI 0, vI 0])])) (by kernel_rfl) ?_
          refine rW (m := ⟨[], [], []⟩) (v := .agg #[vI (((L.getD i default).x) + (-1)), vI ((L.getD i default).y), vI ((L.getD i default).z)]) rfl (by kernel_rfl) (stQ (args := [.agg #[vI ((L.getD i default).x), vI ((L.getD i default).y), vI ((L.getD i default).z)], .agg #[vI (-1), vI 0, vI 0]]) rfl (by kernel_rfl) (Any.lay0 [] (l6Beside0 ((L.getD i default).x) ((L.getD i default).y) ((L.getD i default).z) (by first | assumption | omega | rfl | decide | exact HeapL.list _ _ _ _ | exact HeapL.nil _ _ _ | exact HeapL.all _ _ _ | (apply HeapL.lt64 <;> assumption) | (repeat' (first | assumption | apply or_lt64 | apply and_lt64 | apply andn_lt64 | apply pow_lt64 | (apply HeapL.lt64 <;> assumption))))) trivial rfl trivial rfl (by first | rfl | simp [mpV, mpA, mpS, mpP, renId, shift]) (by first | rfl | simp [mpV, mpA, mpS, mpP, renId, shift])) rfl (by kernel_rfl) (by kernel_rfl)) (by kernel_rfl) nr0 ?_
          refine rW (m := ⟨[7], [], []⟩) (v := vP 7 0) rfl (by kernel_rfl) (stNew (i := 7) (v1 := vP 8 0) (r := ⟨[vI 0, vI 0, vI 0], 74, true, true⟩) (by kernel_rfl) rfl (by kernel_rfl) (by kernel_rfl) (by kernel_rfl) (by kernel_rfl) (nmX (by kernel_rfl)) (clX (by kernel_rfl))) (by kernel_rfl) (NRs.all ⟨nrOf (by rfl) (nmX (by kernel_rfl)), trivial⟩) ?_
          refine rW (m := ⟨[], [7], []⟩) (v := .tuple #[]) rfl (by kernel_rfl) (stSet (b := 7) (r := ⟨[vI (((L.getD i default).x) + (-1)), vI ((L.getD i default).y), vI ((L.getD i default).z)], 74, true, true⟩) (by kernel_rfl) rfl (by kernel_rfl) (by kernel_rfl) (by kernel_rfl) (by kernel_rfl) (nmX (by kernel_rfl)) (clX (by kernel_rfl))) (by kernel_rfl) (NRs.all ⟨nrOf (by rfl) (nmX (by kernel_rfl)), trivial⟩) ?_
          refine segEndW [2, 4, 5, 6, 7, 8, 9, 10] (T1 := (mkT 52 [(2, vP 2 0), (4, vP 3 0), (5, vP 4 0), (6, vP 5 0), (7, vP 6 0), (8, vN i), (9, vI 0), (10, vP 7 0)])) (H1 := [some ⟨a3s L, 74, false, false⟩, some ⟨[], 74, false, false⟩, rB [vN X, vN Y, vN Z, vS 0 L.length] 40, rB [vI 0, vI 0, vI 0, vI 0, vI 0, vI 0] 57, rB [vN m0, vN m1, vN m2, vN m3, vN m4, vN m5] 57, rB [vI (-1), vI 0, vI 0, vI 1, vI 0, vI 0, vI 0, vI (-1), vI 0, vI 0, vI 1, vI 0, vI 0, vI 0, vI (-1), vI 0, vI 0, vI 1] 118, rB [vN X, vN Y, vN Z, vS 1 (([] : List A3).length)] 40, rB [vI (((L.getD i default).x) + (-1)), vI ((L.getD i default).y), vI ((L.getD i default).z)] 74]) (by kernel_rfl) ?_
          refine kSeq ?_
          refine cSeq ?_
          refine cReg ?_
          refine segH 2 (T1 := (mkT 52 [(2, vP 2 0), (4, vP 3 0), (5, vP 4 0), (6, vP 5 0), (7, vP 6 0), (8, vN i), (9, vI 0), (10, vP 7 0), (36, .agg #[vN X, vN Y, vN Z, vS 0 L.length]), (37, .agg #[vI (((L.getD i default).x) + (-1)), vI ((L.getD i default).y), vI ((L.getD i default).z)])])) (by kernel_rfl) ?_
          refine rCall (v := .bool (hasL L (((L.getD i default).x) + (-1)) ((L.getD i default).y) ((L.getD i default).z))) (args := [.agg #[vN X, vN Y, vN Z, vS 0 L.length], .agg #[vI (((L.getD i default).x) + (-1)), vI ((L.getD i default).y), vI ((L.getD i default).z)]]) (by kernel_rfl) rfl (by kernel_rfl) (Sound.lay0 [0] (l2HasB X Y Z L (((L.getD i default).x) + (-1)) ((L.getD i default).y) ((L.getD i default).z) (by first | assumption | omega | rfl | decide | exact HeapL.list _ _ _ _ | exact HeapL.nil _ _ _ | exact HeapL.all _ _ _ | (apply HeapL.lt64 <;> assumption) | (repeat' (first | assumption | apply or_lt64 | apply and_lt64 | apply andn_lt64 | apply pow_lt64 | (apply HeapL.lt64 <;> assumption)))) (by first | assumption | omega | rfl | decide | exact HeapL.list _ _ _ _ | exact HeapL.nil _ _ _ | exact HeapL.all _ _ _ | (apply HeapL.lt64 <;> assumption) | (repeat' (first | assumption | apply or_lt64 | apply and_lt64 | apply andn_lt64 | apply pow_lt64 | (apply HeapL.lt64 <;> assumption))))) ⟨rdF false (flatA3 _ _ _ _) rfl rfl, trivial⟩ rfl ⟨clF (flatA3 _ _ _ _), trivial⟩ rfl (by first | rfl | simp [mpV, mpA, mpS, mpP, renId, shift]) rfl) ?_
          refine segH 2 (T1 := (mkT 52 [(2, vP 2 0), (4, vP 3 0), (5, vP 4 0), (6, vP 5 0), (7, vP 6 0), (8, vN i), (9, vI 0), (10, vP 7 0), (36, .agg #[vN X, vN Y, vN Z, vS 0 L.length]), (37, .agg #[vI (((L.getD i default).x) + (-1)), vI ((L.getD i default).y), vI ((L.getD i default).z)]), (38, .bool (hasL L (((L.getD i default).x) + (-1)) ((L.getD i default).y) ((L.getD i default).z))), (39, .bool (!(hasL L (((L.getD i default).x) + (-1)) ((L.getD i default).y) ((L.getD i default).z)))), (40, .bool (!(hasL L (((L.getD i default).x) + (-1)) ((L.getD i default).y) ((L.getD i default).z))))])) (by kernel_rfl) ?_
          cases h2 : (hasL L (((L.getD i default).x) + (-1)) ((L.getD i default).y) ((L.getD i default).z) : Bool)
          ·
            have h2k := h2
            (try simp only [Bool.not_eq_true', Bool.not_eq_false', decide_eq_true_eq, decide_eq_false_iff_not, beq_iff_eq, bne_iff_ne, beq_eq_false_iff_ne, bne_eq_false_iff_eq, ne_eq, Decidable.not_not, Bool.and_eq_true, Bool.and_eq_false_imp, Bool.or_eq_true, Bool.or_eq_false_iff, Bool.not_eq_true, Int.not_lt, Int.not_le, ge_iff_le, gt_iff_lt] at h2)
            refine seg 2 (T1 := (mkT 52 [(2, vP 2 0), (4, vP 3 0), (5, vP 4 0), (6, vP 5 0), (7, vP 6 0), (8, vN i), (9, vI 0), (10, vP 7 0), (36, .agg #[vN X, vN Y, vN Z, vS 0 L.length]), (37, .agg #[vI (((L.getD i default).x) + (-1)), vI ((L.getD i default).y), vI ((L.getD i default).z)]), (38, .bool false), (39, .bool true), (40, .bool true), (41, .agg #[vN X, vN Y, vN Z, vS 1 (([] : List A3).length)]), (42, .agg #[vI (((L.getD i default).x) + (-1)), vI ((L.getD i default).y), vI ((L.getD i default).z)])])) (H1 := [some ⟨a3s L, 74, false, false⟩, some ⟨[], 74, false, false⟩, rB [vN X, vN Y, vN Z, vS 0 L.length] 40, rB [vI 0, vI 0, vI 0, vI 0, vI 0, vI 0] 57, rB [vN m0, vN m1, vN m2, vN m3, vN m4, vN m5] 57, rB [vI (-1), vI 0, vI 0, vI 1, vI 0, vI 0, vI 0, vI (-1), vI 0, vI 0, vI 1, vI 0, vI 0, vI 0, vI (-1), vI 0, vI 0, vI 1] 118, rB [vN X, vN Y, vN Z, vS 1 (([] : List A3).length)] 40, rB [vI (((L.getD i default).x) + (-1)), vI ((L.getD i default).y), vI ((L.getD i default).z)] 74]) (by kernel_rfl) ?_
            refine rCall (v := .bool (hasL ([] : List A3) (((L.getD i default).x) + (-1)) ((L.getD i default).y) ((L.getD i default).z))) (args := [.agg #[vN X, vN Y, vN Z, vS 1 (([] : List A3).length)], .agg #[vI (((L.getD i default).x) + (-1)), vI ((L.getD i default).y), vI ((L.getD i default).z)]]) (by kernel_rfl) rfl (by kernel_rfl) (Sound.lay0 [1] (l2HasB X Y Z ([] : List A3) (((L.getD i default).x) + (-1)) ((L.getD i default).y) ((L.getD i default).z) (by first | assumption | omega | rfl | decide | exact HeapL.list _ _ _ _ | exact HeapL.nil _ _ _ | exact HeapL.all _ _ _ | (apply HeapL.lt64 <;> assumption) | (repeat' (first | assumption | apply or_lt64 | apply and_lt64 | apply andn_lt64 | apply pow_lt64 | (apply HeapL.lt64 <;> assumption)))) (by first | assumption | omega | rfl | decide | exact HeapL.list _ _ _ _ | exact HeapL.nil _ _ _ | exact HeapL.all _ _ _ | (apply HeapL.lt64 <;> assumption) | (repeat' (first | assumption | apply or_lt64 | apply and_lt64 | apply andn_lt64 | apply pow_lt64 | (apply HeapL.lt64 <;> assumption))))) ⟨rdF false (flatA3 _ _ _ _) rfl rfl, trivial⟩ rfl ⟨clF (flatA3 _ _ _ _), trivial⟩ rfl (by first | rfl | simp [mpV, mpA, mpS, mpP, renId, shift]) rfl) ?_
            refine segEnd [2, 4, 5, 6, 7, 8, 9, 45] (T1 := (mkT 52 [(2, vP 2 0), (4, vP 3 0), (5, vP 4 0), (6, vP 5 0), (7, vP 6 0), (8, vN i), (9, vI 0), (45, .bool (!(hasL ([] : List A3) (((L.getD i default).x) + (-1)) ((L.getD i default).y) ((L.getD i default).z))))])) (H1 := [some ⟨a3s L, 74, false, false⟩, some ⟨[], 74, false, false⟩, rB [vN X, vN Y, vN Z, vS 0 L.length] 40, rB [vI 0, vI 0, vI 0, vI 0, vI 0, vI 0] 57, rB [vN m0, vN m1, vN m2, vN m3, vN m4, vN m5] 57, rB [vI (-1), vI 0, vI 0, vI 1, vI 0, vI 0, vI 0, vI (-1), vI 0, vI 0, vI 1, vI 0, vI 0, vI 0, vI (-1), vI 0, vI 0, vI 1] 118, rB [vN X, vN Y, vN Z, vS 1 (([] : List A3).length)] 40, rB [vI (((L.getD i default).x) + (-1)), vI ((L.getD i default).y), vI ((L.getD i default).z)] 74]) (by kernel_rfl) ?_
            refine kSeq ?_
            cases h3 : (hasL ([] : List A3) (((L.getD i default).x) + (-1)) ((L.getD i default).y) ((L.getD i default).z) : Bool)
            ·
              have h3k := h3
              (try simp only [Bool.not_eq_true', Bool.not_eq_false', decide_eq_true_eq, decide_eq_false_iff_not, beq_iff_eq, bne_iff_ne, beq_eq_false_iff_ne, bne_eq_false_iff_eq, ne_eq, Decidable.not_not, Bool.and_eq_true, Bool.and_eq_false_imp, Bool.or_eq_true, Bool.or_eq_false_iff, Bool.not_eq_true, Int.not_lt, Int.not_le, ge_iff_le, gt_iff_lt] at h3)
              refine cTrue (by kernel_rfl) ?_
              refine cReg ?_
              refine segH 3 (T1 := (mkT 52 [(2, vP 2 0), (4, vP 3 0), (5, vP 4 0), (6, vP 5 0), (7, vP 6 0), (8, vN i), (9, vI 0), (45, .bool true), (46, vI 0), (47, vP 4 0), (48, vN m0)])) (by kernel_rfl) ?_
              refine rOp (v := vN (m0 + 1)) (by kernel_rfl) (eAdd (k := .i64) (a := ((m0 : Nat) : Int)) (b := 1) (c := ((m0 + 1 : Nat) : Int)) (by kernel_rfl) (by kernel_rfl) (wr64 (by omega) (by omega) (by omega))) ?_
              refine segEnd [2, 4, 5, 6, 7, 8, 9] (T1 := (mkT 52 [(2, vP 2 0), (4, vP 3 0), (5, vP 4 0), (6, vP 5 0), (7, vP 6 0), (8, vN i), (9, vI 0)])) (H1 := [some ⟨a3s L, 74, false, false⟩, some ⟨[], 74, false, false⟩, rB [vN X, vN Y, vN Z, vS 0 L.length] 40, rB [vI 0, vI 0, vI 0, vI 0, vI 0, vI 0] 57, rB [vN (m0 + 1), vN m1, vN m2, vN m3, vN m4, vN m5] 57, rB [vI (-1), vI 0, vI 0, vI 1, vI 0, vI 0, vI 0, vI (-1), vI 0, vI 0, vI 1, vI 0, vI 0, vI 0, vI (-1), vI 0, vI 0, vI 1] 118, rB [vN X, vN Y, vN Z, vS 1 (([] : List A3).length)] 40, rB [vI (((L.getD i default).x) + (-1)), vI ((L.getD i default).y), vI ((L.getD i default).z)] 74]) (by kernel_rfl) ?_
              refine kBlk ?_
              refine kSeq ?_
              refine cReg ?_
              refine segEndH [2, 4, 5, 6, 7, 8, 9] (T1 := (mkT 52 [(2, vP 2 0), (4, vP 3 0), (5, vP 4 0), (6, vP 5 0), (7, vP 6 0), (8, vN i), (9, vI 1)])) (by kernel_rfl) ?_
              exact kLoop (6 - 1) (mkT 52 [(2, vP 2 0), (4, vP 3 0), (5, vP 4 0), (6, vP 5 0), (7, vP 6 0), (8, vN i), (9, vI 1)]) [some ⟨a3s L, 74, false, false⟩, some ⟨[], 74, false, false⟩, rB [vN X, vN Y, vN Z, vS 0 L.length] 40, rB [vI 0, vI 0, vI 0, vI 0, vI 0, vI 0] 57, rB [vN (m0 + 1), vN m1, vN m2, vN m3, vN m4, vN m5] 57, rB [vI (-1), vI 0, vI 0, vI 1, vI 0, vI 0, vI 0, vI (-1), vI 0, vI 0, vI 1, vI 0, vI 0, vI 0, vI (-1), vI 0, vI 0, vI 1] 118, rB [vN X, vN Y, vN Z, vS 1 (([] : List A3).length)] 40] (by omega) (wkDrop [2, 4, 5, 6, 7, 8, 9] _ rfl rfl ((closedL ⟨clF (flatA3 _ _ _ _), ⟨clX rfl, ⟨clX rfl, ⟨clX rfl, ⟨clX rfl, ⟨clX rfl, ⟨clX rfl, trivial⟩⟩⟩⟩⟩⟩⟩)) (by kernel_rfl) rfl) ⟨1, (m0 + 1), m1, m2, m3, m4, m5, (by omega), (by first | exact cntF_yes (by omega) hm0 (by assumption) | exact cntF_no (by omega) hm0 (by assumption)), (hm1), (hm2), (hm3), (hm4), (hm5), rfl, rfl, rfl⟩
            ·
              have h3k := h3
              (try simp only [Bool.not_eq_true', Bool.not_eq_false', decide_eq_true_eq, decide_eq_false_iff_not, beq_iff_eq, bne_iff_ne, beq_eq_false_iff_ne, bne_eq_false_iff_eq, ne_eq, Decidable.not_not, Bool.and_eq_true, Bool.and_eq_false_imp, Bool.or_eq_true, Bool.or_eq_false_iff, Bool.not_eq_true, Int.not_lt, Int.not_le, ge_iff_le, gt_iff_lt] at h3)
              exfalso; (simp [hasL] at h3)
          ·
            have h2k := h2
            (try simp only [Bool.not_eq_true', Bool.not_eq_false', decide_eq_true_eq, decide_eq_false_iff_not, beq_iff_eq, bne_iff_ne, beq_eq_false_iff_ne, bne_eq_false_iff_eq, ne_eq, Decidable.not_not, Bool.and_eq_true, Bool.and_eq_false_imp, Bool.or_eq_true, Bool.or_eq_false_iff, Bool.not_eq_true, Int.not_lt, Int.not_le, ge_iff_le, gt_iff_lt] at h2)
            refine segEnd [2, 4, 5, 6, 7, 8, 9, 45] (T1 := (mkT 52 [(2, vP 2 0), (4, vP 3 0), (5, vP 4 0), (6, vP 5 0), (7, vP 6 0), (8, vN i), (9, vI 0), (45, .bool false)])) (H1 := [some ⟨a3s L, 74, false, false⟩, some ⟨[], 74, false, false⟩, rB [vN X, vN Y, vN Z, vS 0 L.length] 40, rB [vI 0, vI 0, vI 0, vI 0, vI 0, vI 0] 57, rB [vN m0, vN m1, vN m2, vN m3, vN m4, vN m5] 57, rB [vI (-1), vI 0, vI 0, vI 1, vI 0, vI 0, vI 0, vI (-1), vI 0, vI 0, vI 1, vI 0, vI 0, vI 0, vI (-1), vI 0, vI 0, vI 1] 118, rB [vN X, vN Y, vN Z, vS 1 (([] : List A3).length)] 40, rB [vI (((L.getD i default).x) + (-1)), vI ((L.getD i default).y), vI ((L.getD i default).z)] 74]) (by kernel_rfl) ?_
            refine kSeq ?_
            refine cFalse (by kernel_rfl) ?_
            refine cSkip ?_
            refine kBlk ?_
            refine kSeq ?_
            refine cReg ?_
            refine segEndH [2, 4, 5, 6, 7, 8, 9] (T1 := (mkT 52 [(2, vP 2 0), (4, vP 3 0), (5, vP 4 0), (6, vP 5 0), (7, vP 6 0), (8, vN i), (9, vI 1)])) (by kernel_rfl) ?_
            exact kLoop (6 - 1) (mkT 52 [(2, vP 2 0), (4, vP 3 0), (5, vP 4 0), (6, vP 5 0), (7, vP 6 0), (8, vN i), (9, vI 1)]) [some ⟨a3s L, 74, false, false⟩, some ⟨[], 74, false, false⟩, rB [vN X, vN Y, vN Z, vS 0 L.length] 40, rB [vI 0, vI 0, vI 0, vI 0, vI 0, vI 0] 57, rB [vN m0, vN m1, vN m2, vN m3, vN m4, vN m5] 57, rB [vI (-1), vI 0, vI 0, vI 1, vI 0, vI 0, vI 0, vI (-1), vI 0, vI 0, vI 1, vI 0, vI 0, vI 0, vI (-1), vI 0, vI 0, vI 1] 118, rB [vN X, vN Y, vN Z, vS 1 (([] : List A3).length)] 40] (by omega) (wkDrop [2, 4, 5, 6, 7, 8, 9] _ rfl rfl ((closedL ⟨clF (flatA3 _ _ _ _), ⟨clX rfl, ⟨clX rfl, ⟨clX rfl, ⟨clX rfl, ⟨clX rfl, ⟨clX rfl, trivial⟩⟩⟩⟩⟩⟩⟩)) (by kernel_rfl) rfl) ⟨1, m0, m1, m2, m3, m4, m5, (by omega), (by first | exact cntF_yes (by omega) hm0 (by assumption) | exact cntF_no (by omega) hm0 (by assumption)), (hm1), (hm2), (hm3), (hm4), (hm5), rfl, rfl, rfl⟩
        ·
          refine cSeq ?_
          refine cSeq ?_
          refine cReg ?_
          refine segEndH [2, 4, 5, 6, 7, 8, 9, 24] (T1 := (mkT 52 [(2, vP 2 0), (4, vP 3 0), (5, vP 4 0), (6, vP 5 0), (7, vP 6 0), (8, vN i), (9, vI 1), (24, .bool true)])) (by kernel_rfl) ?_
          refine kSeq ?_
          refine cTrue (by kernel_rfl) ?_
          refine cSkip ?_
          refine kSeq ?_
          refine cSeq ?_
          refine cBlk ?_
          refine cSeq ?_
          refine cRegW (N := 8) [⟨[], [], []⟩, ⟨[], [], [2]⟩, ⟨[], [], []⟩, ⟨[], [], []⟩, ⟨[], [], [0]⟩, ⟨[], [], []⟩, ⟨[], [], []⟩, ⟨[], [], [5]⟩, ⟨[], [], []⟩, ⟨[7], [], []⟩, ⟨[], [7], []⟩] 1 [7] (by rfl) (by rfl) (by kernel_rfl) (by kernel_rfl) (by kernel_rfl) ⟨nmsF (flatA3 _ _ _ _), ⟨nmsX (by kernel_rfl), ⟨nmsX (by kernel_rfl), ⟨nmsX (by kernel_rfl), ⟨nmsX (by kernel_rfl), ⟨nmsX (by kernel_rfl), ⟨nmsX (by kernel_rfl), trivial⟩⟩⟩⟩⟩⟩⟩ ?_
          refine segWH 3 (T1 := (mkT 52 [(2, vP 2 0), (4, vP 3 0), (5, vP 4 0), (6, vP 5 0), (7, vP 6 0), (8, vN i), (9, vI 1), (24, .bool true), (27, vP 2 3), (28, vS 0 L.length), (29, vN i)])) (by kernel_rfl) ?_
          refine rW (m := ⟨[], [], []⟩) (v := vP 0 (i * 3)) rfl (by kernel_rfl) (stId (eIdxS (ad := ⟨0, 0, none⟩) (n := L.length) (m := 0) (k := .i64) (c := ((i : Nat) : Int)) (j := i) (o := i * 3) (by kernel_rfl) (by kernel_rfl) ti31 ti74 (rfl) (by omega) (by exact Nat.zero_add _)) rfl (by kernel_rfl) (by kernel_rfl) (by kernel_rfl)) (by kernel_rfl) nr0 ?_
          refine rW (m := ⟨[], [], [0]⟩) (v := .agg #[vI ((L.getD i default).x), vI ((L.getD i default).y), vI ((L.getD i default).z)]) rfl (by kernel_rfl) (stId (eLdA3 (ad := ⟨0, i * 3, none⟩) (r := ⟨a3s L, 74, false, false⟩) (L := L) (j := i) (by kernel_rfl) (by kernel_rfl) rfl (by first | rfl | omega) (by omega) ti74) rfl (by kernel_rfl) (by kernel_rfl) (by kernel_rfl)) (by kernel_rfl) nr0 ?_
          refine segWH 3 (T1 := (mkT 52 [(2, vP 2 0), (4, vP 3 0), (5, vP 4 0), (6, vP 5 0), (7, vP 6 0), (8, vN i), (9, vI 1), (24, .bool true), (27, vP 2 3), (28, vS 0 L.length), (29, vN i), (30, vP 0 (i * 3)), (31, .agg #[vI ((L.getD i default).x), vI ((L.getD i default).y), vI ((L.getD i default).z)]), (32, vI 1), (33, vP 5 3), (34, .agg #[vI 1, vI 0, vI 0])])) (by kernel_rfl) ?_
          refine rW (m := ⟨[], [], []⟩) (v := .agg #[vI (((L.getD i default).x) + 1), vI ((L.getD i default).y), vI ((L.getD i default).z)]) rfl (by kernel_rfl) (stQ (args := [.agg #[vI ((L.getD i default).x), vI ((L.getD i default).y), vI ((L.getD i default).z)], .agg #[vI 1, vI 0, vI 0]]) rfl (by kernel_rfl) (Any.lay0 [] (l6Beside1 ((L.getD i default).x) ((L.getD i default).y) ((L.getD i default).z) (by first | assumption | omega | rfl | decide | exact HeapL.list _ _ _ _ | exact HeapL.nil _ _ _ | exact HeapL.all _ _ _ | (apply HeapL.lt64 <;> assumption) | (repeat' (first | assumption | apply or_lt64 | apply and_lt64 | apply andn_lt64 | apply pow_lt64 | (apply HeapL.lt64 <;> assumption))))) trivial rfl trivial rfl (by first | rfl | simp [mpV, mpA, mpS, mpP, renId, shift]) (by first | rfl | simp [mpV, mpA, mpS, mpP, renId, shift])) rfl (by kernel_rfl) (by kernel_rfl)) (by kernel_rfl) nr0 ?_
          refine rW (m := ⟨[7], [], []⟩) (v := vP 7 0) rfl (by kernel_rfl) (stNew (i := 7) (v1 := vP 8 0) (r := ⟨[vI 0, vI 0, vI 0], 74, true, true⟩) (by kernel_rfl) rfl (by kernel_rfl) (by kernel_rfl) (by kernel_rfl) (by kernel_rfl) (nmX (by kernel_rfl)) (clX (by kernel_rfl))) (by kernel_rfl) (NRs.all ⟨nrOf (by rfl) (nmX (by kernel_rfl)), trivial⟩) ?_
          refine rW (m := ⟨[], [7], []⟩) (v := .tuple #[]) rfl (by kernel_rfl) (stSet (b := 7) (r := ⟨[vI (((L.getD i default).x) + 1), vI ((L.getD i default).y), vI ((L.getD i default).z)], 74, true, true⟩) (by kernel_rfl) rfl (by kernel_rfl) (by kernel_rfl) (by kernel_rfl) (by kernel_rfl) (nmX (by kernel_rfl)) (clX (by kernel_rfl))) (by kernel_rfl) (NRs.all ⟨nrOf (by rfl) (nmX (by kernel_rfl)), trivial⟩) ?_
          refine segEndW [2, 4, 5, 6, 7, 8, 9, 10] (T1 := (mkT 52 [(2, vP 2 0), (4, vP 3 0), (5, vP 4 0), (6, vP 5 0), (7, vP 6 0), (8, vN i), (9, vI 1), (10, vP 7 0)])) (H1 := [some ⟨a3s L, 74, false, false⟩, some ⟨[], 74, false, false⟩, rB [vN X, vN Y, vN Z, vS 0 L.length] 40, rB [vI 0, vI 0, vI 0, vI 0, vI 0, vI 0] 57, rB [vN m0, vN m1, vN m2, vN m3, vN m4, vN m5] 57, rB [vI (-1), vI 0, vI 0, vI 1, vI 0, vI 0, vI 0, vI (-1), vI 0, vI 0, vI 1, vI 0, vI 0, vI 0, vI (-1), vI 0, vI 0, vI 1] 118, rB [vN X, vN Y, vN Z, vS 1 (([] : List A3).length)] 40, rB [vI (((L.getD i default).x) + 1), vI ((L.getD i default).y), vI ((L.getD i default).z)] 74]) (by kernel_rfl) ?_
          refine kSeq ?_
          refine cSeq ?_
          refine cReg ?_
          refine segH 2 (T1 := (mkT 52 [(2, vP 2 0), (4, vP 3 0), (5, vP 4 0), (6, vP 5 0), (7, vP 6 0), (8, vN i), (9, vI 1), (10, vP 7 0), (36, .agg #[vN X, vN Y, vN Z, vS 0 L.length]), (37, .agg #[vI (((L.getD i default).x) + 1), vI ((L.getD i default).y), vI ((L.getD i default).z)])])) (by kernel_rfl) ?_
          refine rCall (v := .bool (hasL L (((L.getD i default).x) + 1) ((L.getD i default).y) ((L.getD i default).z))) (args := [.agg #[vN X, vN Y, vN Z, vS 0 L.length], .agg #[vI (((L.getD i default).x) + 1), vI ((L.getD i default).y), vI ((L.getD i default).z)]]) (by kernel_rfl) rfl (by kernel_rfl) (Sound.lay0 [0] (l2HasB X Y Z L (((L.getD i default).x) + 1) ((L.getD i default).y) ((L.getD i default).z) (by first | assumption | omega | rfl | decide | exact HeapL.list _ _ _ _ | exact HeapL.nil _ _ _ | exact HeapL.all _ _ _ | (apply HeapL.lt64 <;> assumption) | (repeat' (first | assumption | apply or_lt64 | apply and_lt64 | apply andn_lt64 | apply pow_lt64 | (apply HeapL.lt64 <;> assumption)))) (by first | assumption | omega | rfl | decide | exact HeapL.list _ _ _ _ | exact HeapL.nil _ _ _ | exact HeapL.all _ _ _ | (apply HeapL.lt64 <;> assumption) | (repeat' (first | assumption | apply or_lt64 | apply and_lt64 | apply andn_lt64 | apply pow_lt64 | (apply HeapL.lt64 <;> assumption))))) ⟨rdF false (flatA3 _ _ _ _) rfl rfl, trivial⟩ rfl ⟨clF (flatA3 _ _ _ _), trivial⟩ rfl (by first | rfl | simp [mpV, mpA, mpS, mpP, renId, shift]) rfl) ?_
          refine segH 2 (T1 := (mkT 52 [(2, vP 2 0), (4, vP 3 0), (5, vP 4 0), (6, vP 5 0), (7, vP 6 0), (8, vN i), (9, vI 1), (10, vP 7 0), (36, .agg #[vN X, vN Y, vN Z, vS 0 L.length]), (37, .agg #[vI (((L.getD i default).x) + 1), vI ((L.getD i default).y), vI ((L.getD i default).z)]), (38, .bool (hasL L (((L.getD i default).x) + 1) ((L.getD i default).y) ((L.getD i default).z))), (39, .bool (!(hasL L (((L.getD i default).x) + 1) ((L.getD i default).y) ((L.getD i default).z)))), (40, .bool (!(hasL L (((L.getD i default).x) + 1) ((L.getD i default).y) ((L.getD i default).z))))])) (by kernel_rfl) ?_
          cases h4 : (hasL L (((L.getD i default).x) + 1) ((L.getD i default).y) ((L.getD i default).z) : Bool)
          ·
            have h4k := h4
            (try simp only [Bool.not_eq_true', Bool.not_eq_false', decide_eq_true_eq, decide_eq_false_iff_not, beq_iff_eq, bne_iff_ne, beq_eq_false_iff_ne, bne_eq_false_iff_eq, ne_eq, Decidable.not_not, Bool.and_eq_true, Bool.and_eq_false_imp, Bool.or_eq_true, Bool.or_eq_false_iff, Bool.not_eq_true, Int.not_lt, Int.not_le, ge_iff_le, gt_iff_lt] at h4)
            refine seg 2 (T1 := (mkT 52 [(2, vP 2 0), (4, vP 3 0), (5, vP 4 0), (6, vP 5 0), (7, vP 6 0), (8, vN i), (9, vI 1), (10, vP 7 0), (36, .agg #[vN X, vN Y, vN Z, vS 0 L.length]), (37, .agg #[vI (((L.getD i default).x) + 1), vI ((L.getD i default).y), vI ((L.getD i default).z)]), (38, .bool false), (39, .bool true), (40, .bool true), (41, .agg #[vN X, vN Y, vN Z, vS 1 (([] : List A3).length)]), (42, .agg #[vI (((L.getD i default).x) + 1), vI ((L.getD i default).y), vI ((L.getD i default).z)])])) (H1 := [some ⟨a3s L, 74, false, false⟩, some ⟨[], 74, false, false⟩, rB [vN X, vN Y, vN Z, vS 0 L.length] 40, rB [vI 0, vI 0, vI 0, vI 0, vI 0, vI 0] 57, rB [vN m0, vN m1, vN m2, vN m3, vN m4, vN m5] 57, rB [vI (-1), vI 0, vI 0, vI 1, vI 0, vI 0, vI 0, vI (-1), vI 0, vI 0, vI 1, vI 0, vI 0, vI 0, vI (-1), vI 0, vI 0, vI 1] 118, rB [vN X, vN Y, vN Z, vS 1 (([] : List A3).length)] 40, rB [vI (((L.getD i default).x) + 1), vI ((L.getD i default).y), vI ((L.getD i default).z)] 74]) (by kernel_rfl) ?_
            refine rCall (v := .bool (hasL ([] : List A3) (((L.getD i default).x) + 1) ((L.getD i default).y) ((L.getD i default).z))) (args := [.agg #[vN X, vN Y, vN Z, vS 1 (([] : List A3).length)], .agg #[vI (((L.getD i default).x) + 1), vI ((L.getD i default).y), vI ((L.getD i default).z)]]) (by kernel_rfl) rfl (by kernel_rfl) (Sound.lay0 [1] (l2HasB X Y Z ([] : List A3) (((L.getD i default).x) + 1) ((L.getD i default).y) ((L.getD i default).z) (by first | assumption | omega | rfl | decide | exact HeapL.list _ _ _ _ | exact HeapL.nil _ _ _ | exact HeapL.all _ _ _ | (apply HeapL.lt64 <;> assumption) | (repeat' (first | assumption | apply or_lt64 | apply and_lt64 | apply andn_lt64 | apply pow_lt64 | (apply HeapL.lt64 <;> assumption)))) (by first | assumption | omega | rfl | decide | exact HeapL.list _ _ _ _ | exact HeapL.nil _ _ _ | exact HeapL.all _ _ _ | (apply HeapL.lt64 <;> assumption) | (repeat' (first | assumption | apply or_lt64 | apply and_lt64 | apply andn_lt64 | apply pow_lt64 | (apply HeapL.lt64 <;> assumption))))) ⟨rdF false (flatA3 _ _ _ _) rfl rfl, trivial⟩ rfl ⟨clF (flatA3 _ _ _ _), trivial⟩ rfl (by first | rfl | simp [mpV, mpA, mpS, mpP, renId, shift]) rfl) ?_
            refine segEnd [2, 4, 5, 6, 7, 8, 9, 45] (T1 := (mkT 52 [(2, vP 2 0), (4, vP 3 0), (5, vP 4 0), (6, vP 5 0), (7, vP 6 0), (8, vN i), (9, vI 1), (45, .bool (!(hasL ([] : List A3) (((L.getD i default).x) + 1) ((L.getD i default).y) ((L.getD i default).z))))])) (H1 := [some ⟨a3s L, 74, false, false⟩, some ⟨[], 74, false, false⟩, rB [vN X, vN Y, vN Z, vS 0 L.length] 40, rB [vI 0, vI 0, vI 0, vI 0, vI 0, vI 0] 57, rB [vN m0, vN m1, vN m2, vN m3, vN m4, vN m5] 57, rB [vI (-1), vI 0, vI 0, vI 1, vI 0, vI 0, vI 0, vI (-1), vI 0, vI 0, vI 1, vI 0, vI 0, vI 0, vI (-1), vI 0, vI 0, vI 1] 118, rB [vN X, vN Y, vN Z, vS 1 (([] : List A3).length)] 40, rB [vI (((L.getD i default).x) + 1), vI ((L.getD i default).y), vI ((L.getD i default).z)] 74]) (by kernel_rfl) ?_
            refine kSeq ?_
            cases h5 : (hasL ([] : List A3) (((L.getD i default).x) + 1) ((L.getD i default).y) ((L.getD i default).z) : Bool)
            ·
              have h5k := h5
              (try simp only [Bool.not_eq_true', Bool.not_eq_false', decide_eq_true_eq, decide_eq_false_iff_not, beq_iff_eq, bne_iff_ne, beq_eq_false_iff_ne, bne_eq_false_iff_eq, ne_eq, Decidable.not_not, Bool.and_eq_true, Bool.and_eq_false_imp, Bool.or_eq_true, Bool.or_eq_false_iff, Bool.not_eq_true, Int.not_lt, Int.not_le, ge_iff_le, gt_iff_lt] at h5)
              refine cTrue (by kernel_rfl) ?_
              refine cReg ?_
              refine segH 3 (T1 := (mkT 52 [(2, vP 2 0), (4, vP 3 0), (5, vP 4 0), (6, vP 5 0), (7, vP 6 0), (8, vN i), (9, vI 1), (45, .bool true), (46, vI 1), (47, vP 4 1), (48, vN m1)])) (by kernel_rfl) ?_
              refine rOp (v := vN (m1 + 1)) (by kernel_rfl) (eAdd (k := .i64) (a := ((m1 : Nat) : Int)) (b := 1) (c := ((m1 + 1 : Nat) : Int)) (by kernel_rfl) (by kernel_rfl) (wr64 (by omega) (by omega) (by omega))) ?_
              refine segEnd [2, 4, 5, 6, 7, 8, 9] (T1 := (mkT 52 [(2, vP 2 0), (4, vP 3 0), (5, vP 4 0), (6, vP 5 0), (7, vP 6 0), (8, vN i), (9, vI 1)])) (H1 := [some ⟨a3s L, 74, false, false⟩, some ⟨[], 74, false, false⟩, rB [vN X, vN Y, vN Z, vS 0 L.length] 40, rB [vI 0, vI 0, vI 0, vI 0, vI 0, vI 0] 57, rB [vN m0, vN (m1 + 1), vN m2, vN m3, vN m4, vN m5] 57, rB [vI (-1), vI 0, vI 0, vI 1, vI 0, vI 0, vI 0, vI (-1), vI 0, vI 0, vI 1, vI 0, vI 0, vI 0, vI (-1), vI 0, vI 0, vI 1] 118, rB [vN X, vN Y, vN Z, vS 1 (([] : List A3).length)] 40, rB [vI (((L.getD i default).x) + 1), vI ((L.getD i default).y), vI ((L.getD i default).z)] 74]) (by kernel_rfl) ?_
              refine kBlk ?_
              refine kSeq ?_
              refine cReg ?_
              refine segEndH [2, 4, 5, 6, 7, 8, 9] (T1 := (mkT 52 [(2, vP 2 0), (4, vP 3 0), (5, vP 4 0), (6, vP 5 0), (7, vP 6 0), (8, vN i), (9, vI 2)])) (by kernel_rfl) ?_
              exact kLoop (6 - 2) (mkT 52 [(2, vP 2 0), (4, vP 3 0), (5, vP 4 0), (6, vP 5 0), (7, vP 6 0), (8, vN i), (9, vI 2)]) [some ⟨a3s L, 74, false, false⟩, some ⟨[], 74, false, false⟩, rB [vN X, vN Y, vN Z, vS 0 L.length] 40, rB [vI 0, vI 0, vI 0, vI 0, vI 0, vI 0] 57, rB [vN m0, vN (m1 + 1), vN m2, vN m3, vN m4, vN m5] 57, rB [vI (-1), vI 0, vI 0, vI 1, vI 0, vI 0, vI 0, vI (-1), vI 0, vI 0, vI 1, vI 0, vI 0, vI 0, vI (-1), vI 0, vI 0, vI 1] 118, rB [vN X, vN Y, vN Z, vS 1 (([] : List A3).length)] 40] (by omega) (wkDrop [2, 4, 5, 6, 7, 8, 9] _ rfl rfl ((closedL ⟨clF (flatA3 _ _ _ _), ⟨clX rfl, ⟨clX rfl, ⟨clX rfl, ⟨clX rfl, ⟨clX rfl, ⟨clX rfl, trivial⟩⟩⟩⟩⟩⟩⟩)) (by kernel_rfl) rfl) ⟨2, m0, (m1 + 1), m2, m3, m4, m5, (by omega), (hm0), (by first | exact cntF_yes (by omega) hm1 (by assumption) | exact cntF_no (by omega) hm1 (by assumption)), (hm2), (hm3), (hm4), (hm5), rfl, rfl, rfl⟩
            ·
              have h5k := h5
              (try simp only [Bool.not_eq_true', Bool.not_eq_false', decide_eq_true_eq, decide_eq_false_iff_not, beq_iff_eq, bne_iff_ne, beq_eq_false_iff_ne, bne_eq_false_iff_eq, ne_eq, Decidable.not_not, Bool.and_eq_true, Bool.and_eq_false_imp, Bool.or_eq_true, Bool.or_eq_false_iff, Bool.not_eq_true, Int.not_lt, Int.not_le, ge_iff_le, gt_iff_lt] at h5)
              exfalso; (simp [hasL] at h5)
          ·
            have h4k := h4
            (try simp only [Bool.not_eq_true', Bool.not_eq_false', decide_eq_true_eq, decide_eq_false_iff_not, beq_iff_eq, bne_iff_ne, beq_eq_false_iff_ne, bne_eq_false_iff_eq, ne_eq, Decidable.not_not, Bool.and_eq_true, Bool.and_eq_false_imp, Bool.or_eq_true, Bool.or_eq_false_iff, Bool.not_eq_true, Int.not_lt, Int.not_le, ge_iff_le, gt_iff_lt] at h4)
            refine segEnd [2, 4, 5, 6, 7, 8, 9, 45] (T1 := (mkT 52 [(2, vP 2 0), (4, vP 3 0), (5, vP 4 0), (6, vP 5 0), (7, vP 6 0), (8, vN i), (9, vI 1), (45, .bool false)])) (H1 := [some ⟨a3s L, 74, false, false⟩, some ⟨[], 74, false, false⟩, rB [vN X, vN Y, vN Z, vS 0 L.length] 40, rB [vI 0, vI 0, vI 0, vI 0, vI 0, vI 0] 57, rB [vN m0, vN m1, vN m2, vN m3, vN m4, vN m5] 57, rB [vI (-1), vI 0, vI 0, vI 1, vI 0, vI 0, vI 0, vI (-1), vI 0, vI 0, vI 1, vI 0, vI 0, vI 0, vI (-1), vI 0, vI 0, vI 1] 118, rB [vN X, vN Y, vN Z, vS 1 (([] : List A3).length)] 40, rB [vI (((L.getD i default).x) + 1), vI ((L.getD i default).y), vI ((L.getD i default).z)] 74]) (by kernel_rfl) ?_
            refine kSeq ?_
            refine cFalse (by kernel_rfl) ?_
            refine cSkip ?_
            refine kBlk ?_
            refine kSeq ?_
            refine cReg ?_
            refine segEndH [2, 4, 5, 6, 7, 8, 9] (T1 := (mkT 52 [(2, vP 2 0), (4, vP 3 0), (5, vP 4 0), (6, vP 5 0), (7, vP 6 0), (8, vN i), (9, vI 2)])) (by kernel_rfl) ?_
            exact kLoop (6 - 2) (mkT 52 [(2, vP 2 0), (4, vP 3 0), (5, vP 4 0), (6, vP 5 0), (7, vP 6 0), (8, vN i), (9, vI 2)]) [some ⟨a3s L, 74, false, false⟩, some ⟨[], 74, false, false⟩, rB [vN X, vN Y, vN Z, vS 0 L.length] 40, rB [vI 0, vI 0, vI 0, vI 0, vI 0, vI 0] 57, rB [vN m0, vN m1, vN m2, vN m3, vN m4, vN m5] 57, rB [vI (-1), vI 0, vI 0, vI 1, vI 0, vI 0, vI 0, vI (-1), vI 0, vI 0, vI 1, vI 0, vI 0, vI 0, vI (-1), vI 0, vI 0, vI 1] 118, rB [vN X, vN Y, vN Z, vS 1 (([] : List A3).length)] 40] (by omega) (wkDrop [2, 4, 5, 6, 7, 8, 9] _ rfl rfl ((closedL ⟨clF (flatA3 _ _ _ _), ⟨clX rfl, ⟨clX rfl, ⟨clX rfl, ⟨clX rfl, ⟨clX rfl, ⟨clX rfl, trivial⟩⟩⟩⟩⟩⟩⟩)) (by kernel_rfl) rfl) ⟨2, m0, m1, m2, m3, m4, m5, (by omega), (hm0), (by first | exact cntF_yes (by omega) hm1 (by assumption) | exact cntF_no (by omega) hm1 (by assumption)), (hm2), (hm3), (hm4), (hm5), rfl, rfl, rfl⟩
        ·
          refine cSeq ?_
          refine cSeq ?_
          refine cReg ?_
          refine segEndH [2, 4, 5, 6, 7, 8, 9, 24] (T1 := (mkT 52 [(2, vP 2 0), (4, vP 3 0), (5, vP 4 0), (6, vP 5 0), (7, vP 6 0), (8, vN i), (9, vI 2), (24, .bool true)])) (by kernel_rfl) ?_
          refine kSeq ?_
          refine cTrue (by kernel_rfl) ?_
          refine cSkip ?_
          refine kSeq ?_
          refine cSeq ?_
          refine cBlk ?_
          refine cSeq ?_
          refine cRegW (N := 8) [⟨[], [], []⟩, ⟨[], [], [2]⟩, ⟨[], [], []⟩, ⟨[], [], []⟩, ⟨[], [], [0]⟩, ⟨[], [], []⟩, ⟨[], [], []⟩, ⟨[], [], [5]⟩, ⟨[], [], []⟩, ⟨[7], [], []⟩, ⟨[], [7], []⟩] 1 [7] (by rfl) (by rfl) (by kernel_rfl) (by kernel_rfl) (by kernel_rfl) ⟨nmsF (flatA3 _ _ _ _), ⟨nmsX (by kernel_rfl), ⟨nmsX (by kernel_rfl), ⟨nmsX (by kernel_rfl), ⟨nmsX (by kernel_rfl), ⟨nmsX (by kernel_rfl), ⟨nmsX (by kernel_rfl), trivial⟩⟩⟩⟩⟩⟩⟩ ?_
          refine segWH 3 (T1 := (mkT 52 [(2, vP 2 0), (4, vP 3 0), (5, vP 4 0), (6, vP 5 0), (7, vP 6 0), (8, vN i), (9, vI 2), (24, .bool true), (27, vP 2 3), (28, vS 0 L.length), (29, vN i)])) (by kernel_rfl) ?_
          refine rW (m := ⟨[], [], []⟩) (v := vP 0 (i * 3)) rfl (by kernel_rfl) (stId (eIdxS (ad := ⟨0, 0, none⟩) (n := L.length) (m := 0) (k := .i64) (c := ((i : Nat) : Int)) (j := i) (o := i * 3) (by kernel_rfl) (by kernel_rfl) ti31 ti74 (rfl) (by omega) (by exact Nat.zero_add _)) rfl (by kernel_rfl) (by kernel_rfl) (by kernel_rfl)) (by kernel_rfl) nr0 ?_
          refine rW (m := ⟨[], [], [0]⟩) (v := .agg #[vI ((L.getD i default).x), vI ((L.getD i default).y), vI ((L.getD i default).z)]) rfl (by kernel_rfl) (stId (eLdA3 (ad := ⟨0, i * 3, none⟩) (r := ⟨a3s L, 74, false, false⟩) (L := L) (j := i) (by kernel_rfl) (by kernel_rfl) rfl (by first | rfl | omega) (by omega) ti74) rfl (by kernel_rfl) (by kernel_rfl) (by kernel_rfl)) (by kernel_rfl) nr0 ?_
          refine segWH 3 (T1 := (mkT 52 [(2, vP 2 0), (4, vP 3 0), (5, vP 4 0), (6, vP 5 0), (7, vP 6 0), (8, vN i), (9, vI 2), (24, .bool true), (27, vP 2 3), (28, vS 0 L.length), (29, vN i), (30, vP 0 (i * 3)), (31, .agg #[vI ((L.getD i default).x), vI ((L.getD i default).y), vI ((L.getD i default).z)]), (32, vI 2), (33, vP 5 6), (34, .agg #[vI 0, vI (-1), vI 0])])) (by kernel_rfl) ?_
          refine rW (m := ⟨[], [], []⟩) (v := .agg #[vI ((L.getD i default).x), vI (((L.getD i default).y) + (-1)), vI ((L.getD i default).z)]) rfl (by kernel_rfl) (stQ (args := [.agg #[vI ((L.getD i default).x), vI ((L.getD i default).y), vI ((L.getD i default).z)], .agg #[vI 0, vI (-1), vI 0]]) rfl (by kernel_rfl) (Any.lay0 [] (l6Beside2 ((L.getD i default).x) ((L.getD i default).y) ((L.getD i default).z) (by first | assumption | omega | rfl | decide | exact HeapL.list _ _ _ _ | exact HeapL.nil _ _ _ | exact HeapL.all _ _ _ | (apply HeapL.lt64 <;> assumption) | (repeat' (first | assumption | apply or_lt64 | apply and_lt64 | apply andn_lt64 | apply pow_lt64 | (apply HeapL.lt64 <;> assumption))))) trivial rfl trivial rfl (by first | rfl | simp [mpV, mpA, mpS, mpP, renId, shift]) (by first | rfl | simp [mpV, mpA, mpS, mpP, renId, shift])) rfl (by kernel_rfl) (by kernel_rfl)) (by kernel_rfl) nr0 ?_
          refine rW (m := ⟨[7], [], []⟩) (v := vP 7 0) rfl (by kernel_rfl) (stNew (i := 7) (v1 := vP 8 0) (r := ⟨[vI 0, vI 0, vI 0], 74, true, true⟩) (by kernel_rfl) rfl (by kernel_rfl) (by kernel_rfl) (by kernel_rfl) (by kernel_rfl) (nmX (by kernel_rfl)) (clX (by kernel_rfl))) (by kernel_rfl) (NRs.all ⟨nrOf (by rfl) (nmX (by kernel_rfl)), trivial⟩) ?_
          refine rW (m := ⟨[], [7], []⟩) (v := .tuple #[]) rfl (by kernel_rfl) (stSet (b := 7) (r := ⟨[vI ((L.getD i default).x), vI (((L.getD i default).y) + (-1)), vI ((L.getD i default).z)], 74, true, true⟩) (by kernel_rfl) rfl (by kernel_rfl) (by kernel_rfl) (by kernel_rfl) (by kernel_rfl) (nmX (by kernel_rfl)) (clX (by kernel_rfl))) (by kernel_rfl) (NRs.all ⟨nrOf (by rfl) (nmX (by kernel_rfl)), trivial⟩) ?_
          refine segEndW [2, 4, 5, 6, 7, 8, 9, 10] (T1 := (mkT 52 [(2, vP 2 0), (4, vP 3 0), (5, vP 4 0), (6, vP 5 0), (7, vP 6 0), (8, vN i), (9, vI 2), (10, vP 7 0)])) (H1 := [some ⟨a3s L, 74, false, false⟩, some ⟨[], 74, false, false⟩, rB [vN X, vN Y, vN Z, vS 0 L.length] 40, rB [vI 0, vI 0, vI 0, vI 0, vI 0, vI 0] 57, rB [vN m0, vN m1, vN m2, vN m3, vN m4, vN m5] 57, rB [vI (-1), vI 0, vI 0, vI 1, vI 0, vI 0, vI 0, vI (-1), vI 0, vI 0, vI 1, vI 0, vI 0, vI 0, vI (-1), vI 0, vI 0, vI 1] 118, rB [vN X, vN Y, vN Z, vS 1 (([] : List A3).length)] 40, rB [vI ((L.getD i default).x), vI (((L.getD i default).y) + (-1)), vI ((L.getD i default).z)] 74]) (by kernel_rfl) ?_
          refine kSeq ?_
          refine cSeq ?_
          refine cReg ?_
          refine segH 2 (T1 := (mkT 52 [(2, vP 2 0), (4, vP 3 0), (5, vP 4 0), (6, vP 5 0), (7, vP 6 0), (8, vN i), (9, vI 2), (10, vP 7 0), (36, .agg #[vN X, vN Y, vN Z, vS 0 L.length]), (37, .agg #[vI ((L.getD i default).x), vI (((L.getD i default).y) + (-1)), vI ((L.getD i default).z)])])) (by kernel_rfl) ?_
          refine rCall (v := .bool (hasL L ((L.getD i default).x) (((L.getD i default).y) + (-1)) ((L.getD i default).z))) (args := [.agg #[vN X, vN Y, vN Z, vS 0 L.length], .agg #[vI ((L.getD i default).x), vI (((L.getD i default).y) + (-1)), vI ((L.getD i default).z)]]) (by kernel_rfl) rfl (by kernel_rfl) (Sound.lay0 [0] (l2HasB X Y Z L ((L.getD i default).x) (((L.getD i default).y) + (-1)) ((L.getD i default).z) (by first | assumption | omega | rfl | decide | exact HeapL.list _ _ _ _ | exact HeapL.nil _ _ _ | exact HeapL.all _ _ _ | (apply HeapL.lt64 <;> assumption) | (repeat' (first | assumption | apply or_lt64 | apply and_lt64 | apply andn_lt64 | apply pow_lt64 | (apply HeapL.lt64 <;> assumption)))) (by first | assumption | omega | rfl | decide | exact HeapL.list _ _ _ _ | exact HeapL.nil _ _ _ | exact HeapL.all _ _ _ | (apply HeapL.lt64 <;> assumption) | (repeat' (first | assumption | apply or_lt64 | apply and_lt64 | apply andn_lt64 | apply pow_lt64 | (apply HeapL.lt64 <;> assumption))))) ⟨rdF false (flatA3 _ _ _ _) rfl rfl, trivial⟩ rfl ⟨clF (flatA3 _ _ _ _), trivial⟩ rfl (by first | rfl | simp [mpV, mpA, mpS, mpP, renId, shift]) rfl) ?_
          refine segH 2 (T1 := (mkT 52 [(2, vP 2 0), (4, vP 3 0), (5, vP 4 0), (6, vP 5 0), (7, vP 6 0), (8, vN i), (9, vI 2), (10, vP 7 0), (36, .agg #[vN X, vN Y, vN Z, vS 0 L.length]), (37, .agg #[vI ((L.getD i default).x), vI (((L.getD i default).y) + (-1)), vI ((L.getD i default).z)]), (38, .bool (hasL L ((L.getD i default).x) (((L.getD i default).y) + (-1)) ((L.getD i default).z))), (39, .bool (!(hasL L ((L.getD i default).x) (((L.getD i default).y) + (-1)) ((L.getD i default).z)))), (40, .bool (!(hasL L ((L.getD i default).x) (((L.getD i default).y) + (-1)) ((L.getD i default).z))))])) (by kernel_rfl) ?_
          cases h6 : (hasL L ((L.getD i default).x) (((L.getD i default).y) + (-1)) ((L.getD i default).z) : Bool)
          ·
            have h6k := h6
            (try simp only [Bool.not_eq_true', Bool.not_eq_false', decide_eq_true_eq, decide_eq_false_iff_not, beq_iff_eq, bne_iff_ne, beq_eq_false_iff_ne, bne_eq_false_iff_eq, ne_eq, Decidable.not_not, Bool.and_eq_true, Bool.and_eq_false_imp, Bool.or_eq_true, Bool.or_eq_false_iff, Bool.not_eq_true, Int.not_lt, Int.not_le, ge_iff_le, gt_iff_lt] at h6)
            refine seg 2 (T1 := (mkT 52 [(2, vP 2 0), (4, vP 3 0), (5, vP 4 0), (6, vP 5 0), (7, vP 6 0), (8, vN i), (9, vI 2), (10, vP 7 0), (36, .agg #[vN X, vN Y, vN Z, vS 0 L.length]), (37, .agg #[vI ((L.getD i default).x), vI (((L.getD i default).y) + (-1)), vI ((L.getD i default).z)]), (38, .bool false), (39, .bool true), (40, .bool true), (41, .agg #[vN X, vN Y, vN Z, vS 1 (([] : List A3).length)]), (42, .agg #[vI ((L.getD i default).x), vI (((L.getD i default).y) + (-1)), vI ((L.getD i default).z)])])) (H1 := [some ⟨a3s L, 74, false, false⟩, some ⟨[], 74, false, false⟩, rB [vN X, vN Y, vN Z, vS 0 L.length] 40, rB [vI 0, vI 0, vI 0, vI 0, vI 0, vI 0] 57, rB [vN m0, vN m1, vN m2, vN m3, vN m4, vN m5] 57, rB [vI (-1), vI 0, vI 0, vI 1, vI 0, vI 0, vI 0, vI (-1), vI 0, vI 0, vI 1, vI 0, vI 0, vI 0, vI (-1), vI 0, vI 0, vI 1] 118, rB [vN X, vN Y, vN Z, vS 1 (([] : List A3).length)] 40, rB [vI ((L.getD i default).x), vI (((L.getD i default).y) + (-1)), vI ((L.getD i default).z)] 74]) (by kernel_rfl) ?_
            refine rCall (v := .bool (hasL ([] : List A3) ((L.getD i default).x) (((L.getD i default).y) + (-1)) ((L.getD i default).z))) (args := [.agg #[vN X, vN Y, vN Z, vS 1 (([] : List A3).length)], .agg #[vI ((L.getD i default).x), vI (((L.getD i default).y) + (-1)), vI ((L.getD i default).z)]]) (by kernel_rfl) rfl (by kernel_rfl) (Sound.lay0 [1] (l2HasB X Y Z ([] : List A3) ((L.getD i default).x) (((L.getD i default).y) + (-1)) ((L.getD i default).z) (by first | assumption | omega | rfl | decide | exact HeapL.list _ _ _ _ | exact HeapL.nil _ _ _ | exact HeapL.all _ _ _ | (apply HeapL.lt64 <;> assumption) | (repeat' (first | assumption | apply or_lt64 | apply and_lt64 | apply andn_lt64 | apply pow_lt64 | (apply HeapL.lt64 <;> assumption)))) (by first | assumption | omega | rfl | decide | exact HeapL.list _ _ _ _ | exact HeapL.nil _ _ _ | exact HeapL.all _ _ _ | (apply HeapL.lt64 <;> assumption) | (repeat' (first | assumption | apply or_lt64 | apply and_lt64 | apply andn_lt64 | apply pow_lt64 | (apply HeapL.lt64 <;> assumption))))) ⟨rdF false (flatA3 _ _ _ _) rfl rfl, trivial⟩ rfl ⟨clF (flatA3 _ _ _ _), trivial⟩ rfl (by first | rfl | simp [mpV, mpA, mpS, mpP, renId, shift]) rfl) ?_
            refine segEnd [2, 4, 5, 6, 7, 8, 9, 45] (T1 := (mkT 52 [(2, vP 2 0), (4, vP 3 0), (5, vP 4 0), (6, vP 5 0), (7, vP 6 0), (8, vN i), (9, vI 2), (45, .bool (!(hasL ([] : List A3) ((L.getD i default).x) (((L.getD i default).y) + (-1)) ((L.getD i default).z))))])) (H1 := [some ⟨a3s L, 74, false, false⟩, some ⟨[], 74, false, false⟩, rB [vN X, vN Y, vN Z, vS 0 L.length] 40, rB [vI 0, vI 0, vI 0, vI 0, vI 0, vI 0] 57, rB [vN m0, vN m1, vN m2, vN m3, vN m4, vN m5] 57, rB [vI (-1), vI 0, vI 0, vI 1, vI 0, vI 0, vI 0, vI (-1), vI 0, vI 0, vI 1, vI 0, vI 0, vI 0, vI (-1), vI 0, vI 0, vI 1] 118, rB [vN X, vN Y, vN Z, vS 1 (([] : List A3).length)] 40, rB [vI ((L.getD i default).x), vI (((L.getD i default).y) + (-1)), vI ((L.getD i default).z)] 74]) (by kernel_rfl) ?_
            refine kSeq ?_
            cases h7 : (hasL ([] : List A3) ((L.getD i default).x) (((L.getD i default).y) + (-1)) ((L.getD i default).z) : Bool)
            ·
              have h7k := h7
              (try simp only [Bool.not_eq_true', Bool.not_eq_false', decide_eq_true_eq, decide_eq_false_iff_not, beq_iff_eq, bne_iff_ne, beq_eq_false_iff_ne, bne_eq_false_iff_eq, ne_eq, Decidable.not_not, Bool.and_eq_true, Bool.and_eq_false_imp, Bool.or_eq_true, Bool.or_eq_false_iff, Bool.not_eq_true, Int.not_lt, Int.not_le, ge_iff_le, gt_iff_lt] at h7)
              refine cTrue (by kernel_rfl) ?_
              refine cReg ?_
              refine segH 3 (T1 := (mkT 52 [(2, vP 2 0), (4, vP 3 0), (5, vP 4 0), (6, vP 5 0), (7, vP 6 0), (8, vN i), (9, vI 2), (45, .bool true), (46, vI 2), (47, vP 4 2), (48, vN m2)])) (by kernel_rfl) ?_
              refine rOp (v := vN (m2 + 1)) (by kernel_rfl) (eAdd (k := .i64) (a := ((m2 : Nat) : Int)) (b := 1) (c := ((m2 + 1 : Nat) : Int)) (by kernel_rfl) (by kernel_rfl) (wr64 (by omega) (by omega) (by omega))) ?_
              refine segEnd [2, 4, 5, 6, 7, 8, 9] (T1 := (mkT 52 [(2, vP 2 0), (4, vP 3 0), (5, vP 4 0), (6, vP 5 0), (7, vP 6 0), (8, vN i), (9, vI 2)])) (H1 := [some ⟨a3s L, 74, false, false⟩, some ⟨[], 74, false, false⟩, rB [vN X, vN Y, vN Z, vS 0 L.length] 40, rB [vI 0, vI 0, vI 0, vI 0, vI 0, vI 0] 57, rB [vN m0, vN m1, vN (m2 + 1), vN m3, vN m4, vN m5] 57, rB [vI (-1), vI 0, vI 0, vI 1, vI 0, vI 0, vI 0, vI (-1), vI 0, vI 0, vI 1, vI 0, vI 0, vI 0, vI (-1), vI 0, vI 0, vI 1] 118, rB [vN X, vN Y, vN Z, vS 1 (([] : List A3).length)] 40, rB [vI ((L.getD i default).x), vI (((L.getD i default).y) + (-1)), vI ((L.getD i default).z)] 74]) (by kernel_rfl) ?_
              refine kBlk ?_
              refine kSeq ?_
              refine cReg ?_
              refine segEndH [2, 4, 5, 6, 7, 8, 9] (T1 := (mkT 52 [(2, vP 2 0), (4, vP 3 0), (5, vP 4 0), (6, vP 5 0), (7, vP 6 0), (8, vN i), (9, vI 3)])) (by kernel_rfl) ?_
              exact kLoop (6 - 3) (mkT 52 [(2, vP 2 0), (4, vP 3 0), (5, vP 4 0), (6, vP 5 0), (7, vP 6 0), (8, vN i), (9, vI 3)]) [some ⟨a3s L, 74, false, false⟩, some ⟨[], 74, false, false⟩, rB [vN X, vN Y, vN Z, vS 0 L.length] 40, rB [vI 0, vI 0, vI 0, vI 0, vI 0, vI 0] 57, rB [vN m0, vN m1, vN (m2 + 1), vN m3, vN m4, vN m5] 57, rB [vI (-1), vI 0, vI 0, vI 1, vI 0, vI 0, vI 0, vI (-1), vI 0, vI 0, vI 1, vI 0, vI 0, vI 0, vI (-1), vI 0, vI 0, vI 1] 118, rB [vN X, vN Y, vN Z, vS 1 (([] : List A3).length)] 40] (by omega) (wkDrop [2, 4, 5, 6, 7, 8, 9] _ rfl rfl ((closedL ⟨clF (flatA3 _ _ _ _), ⟨clX rfl, ⟨clX rfl, ⟨clX rfl, ⟨clX rfl, ⟨clX rfl, ⟨clX rfl, trivial⟩⟩⟩⟩⟩⟩⟩)) (by kernel_rfl) rfl) ⟨3, m0, m1, (m2 + 1), m3, m4, m5, (by omega), (hm0), (hm1), (by first | exact cntF_yes (by omega) hm2 (by assumption) | exact cntF_no (by omega) hm2 (by assumption)), (hm3), (hm4), (hm5), rfl, rfl, rfl⟩
            ·
              have h7k := h7
              (try simp only [Bool.not_eq_true', Bool.not_eq_false', decide_eq_true_eq, decide_eq_false_iff_not, beq_iff_eq, bne_iff_ne, beq_eq_false_iff_ne, bne_eq_false_iff_eq, ne_eq, Decidable.not_not, Bool.and_eq_true, Bool.and_eq_false_imp, Bool.or_eq_true, Bool.or_eq_false_iff, Bool.not_eq_true, Int.not_lt, Int.not_le, ge_iff_le, gt_iff_lt] at h7)
              exfalso; (simp [hasL] at h7)
          ·
            have h6k := h6
            (try simp only [Bool.not_eq_true', Bool.not_eq_false', decide_eq_true_eq, decide_eq_false_iff_not, beq_iff_eq, bne_iff_ne, beq_eq_false_iff_ne, bne_eq_false_iff_eq, ne_eq, Decidable.not_not, Bool.and_eq_true, Bool.and_eq_false_imp, Bool.or_eq_true, Bool.or_eq_false_iff, Bool.not_eq_true, Int.not_lt, Int.not_le, ge_iff_le, gt_iff_lt] at h6)
            refine segEnd [2, 4, 5, 6, 7, 8, 9, 45] (T1 := (mkT 52 [(2, vP 2 0), (4, vP 3 0), (5, vP 4 0), (6, vP 5 0), (7, vP 6 0), (8, vN i), (9, vI 2), (45, .bool false)])) (H1 := [some ⟨a3s L, 74, false, false⟩, some ⟨[], 74, false, false⟩, rB [vN X, vN Y, vN Z, vS 0 L.length] 40, rB [vI 0, vI 0, vI 0, vI 0, vI 0, vI 0] 57, rB [vN m0, vN m1, vN m2, vN m3, vN m4, vN m5] 57, rB [vI (-1), vI 0, vI 0, vI 1, vI 0, vI 0, vI 0, vI (-1), vI 0, vI 0, vI 1, vI 0, vI 0, vI 0, vI (-1), vI 0, vI 0, vI 1] 118, rB [vN X, vN Y, vN Z, vS 1 (([] : List A3).length)] 40, rB [vI ((L.getD i default).x), vI (((L.getD i default).y) + (-1)), vI ((L.getD i default).z)] 74]) (by kernel_rfl) ?_
            refine kSeq ?_
            refine cFalse (by kernel_rfl) ?_
            refine cSkip ?_
            refine kBlk ?_
            refine kSeq ?_
            refine cReg ?_
            refine segEndH [2, 4, 5, 6, 7, 8, 9] (T1 := (mkT 52 [(2, vP 2 0), (4, vP 3 0), (5, vP 4 0), (6, vP 5 0), (7, vP 6 0), (8, vN i), (9, vI 3)])) (by kernel_rfl) ?_
            exact kLoop (6 - 3) (mkT 52 [(2, vP 2 0), (4, vP 3 0), (5, vP 4 0), (6, vP 5 0), (7, vP 6 0), (8, vN i), (9, vI 3)]) [some ⟨a3s L, 74, false, false⟩, some ⟨[], 74, false, false⟩, rB [vN X, vN Y, vN Z, vS 0 L.length] 40, rB [vI 0, vI 0, vI 0, vI 0, vI 0, vI 0] 57, rB [vN m0, vN m1, vN m2, vN m3, vN m4, vN m5] 57, rB [vI (-1), vI 0, vI 0, vI 1, vI 0, vI 0, vI 0, vI (-1), vI 0, vI 0, vI 1, vI 0, vI 0, vI 0, vI (-1), vI 0, vI 0, vI 1] 118, rB [vN X, vN Y, vN Z, vS 1 (([] : List A3).length)] 40] (by omega) (wkDrop [2, 4, 5, 6, 7, 8, 9] _ rfl rfl ((closedL ⟨clF (flatA3 _ _ _ _), ⟨clX rfl, ⟨clX rfl, ⟨clX rfl, ⟨clX rfl, ⟨clX rfl, ⟨clX rfl, trivial⟩⟩⟩⟩⟩⟩⟩)) (by kernel_rfl) rfl) ⟨3, m0, m1, m2, m3, m4, m5, (by omega), (hm0), (hm1), (by first | exact cntF_yes (by omega) hm2 (by assumption) | exact cntF_no (by omega) hm2 (by assumption)), (hm3), (hm4), (hm5), rfl, rfl, rfl⟩
        ·
          refine cSeq ?_
          refine cSeq ?_
          refine cReg ?_
          refine segEndH [2, 4, 5, 6, 7, 8, 9, 24] (T1 := (mkT 52 [(2, vP 2 0), (4, vP 3 0), (5, vP 4 0), (6, vP 5 0), (7, vP 6 0), (8, vN i), (9, vI 3), (24, .bool true)])) (by kernel_rfl) ?_
          refine kSeq ?_
          refine cTrue (by kernel_rfl) ?_
          refine cSkip ?_
          refine kSeq ?_
          refine cSeq ?_
          refine cBlk ?_
          refine cSeq ?_
          refine cRegW (N := 8) [⟨[], [], []⟩, ⟨[], [], [2]⟩, ⟨[], [], []⟩, ⟨[], [], []⟩, ⟨[], [], [0]⟩, ⟨[], [], []⟩, ⟨[], [], []⟩, ⟨[], [], [5]⟩, ⟨[], [], []⟩, ⟨[7], [], []⟩, ⟨[], [7], []⟩] 1 [7] (by rfl) (by rfl) (by kernel_rfl) (by kernel_rfl) (by kernel_rfl) ⟨nmsF (flatA3 _ _ _ _), ⟨nmsX (by kernel_rfl), ⟨nmsX (by kernel_rfl), ⟨nmsX (by kernel_rfl), ⟨nmsX (by kernel_rfl), ⟨nmsX (by kernel_rfl), ⟨nmsX (by kernel_rfl), trivial⟩⟩⟩⟩⟩⟩⟩ ?_
          refine segWH 3 (T1 := (mkT 52 [(2, vP 2 0), (4, vP 3 0), (5, vP 4 0), (6, vP 5 0), (7, vP 6 0), (8, vN i), (9, vI 3), (24, .bool true), (27, vP 2 3), (28, vS 0 L.length), (29, vN i)])) (by kernel_rfl) ?_
          refine rW (m := ⟨[], [], []⟩) (v := vP 0 (i * 3)) rfl (by kernel_rfl) (stId (eIdxS (ad := ⟨0, 0, none⟩) (n := L.length) (m := 0) (k := .i64) (c := ((i : Nat) : Int)) (j := i) (o := i * 3) (by kernel_rfl) (by kernel_rfl) ti31 ti74 (rfl) (by omega) (by exact Nat.zero_add _)) rfl (by kernel_rfl) (by kernel_rfl) (by kernel_rfl)) (by kernel_rfl) nr0 ?_
          refine rW (m := ⟨[], [], [0]⟩) (v := .agg #[vI ((L.getD i default).x), vI ((L.getD i default).y), vI ((L.getD i default).z)]) rfl (by kernel_rfl) (stId (eLdA3 (ad := ⟨0, i * 3, none⟩) (r := ⟨a3s L, 74, false, false⟩) (L := L) (j := i) (by kernel_rfl) (by kernel_rfl) rfl (by first | rfl | omega) (by omega) ti74) rfl (by kernel_rfl) (by kernel_rfl) (by kernel_rfl)) (by kernel_rfl) nr0 ?_
          refine segWH 3 (T1 := (mkT 52 [(2, vP 2 0), (4, vP 3 0), (5, vP 4 0), (6, vP 5 0), (7, vP 6 0), (8, vN i), (9, vI 3), (24, .bool true), (27, vP 2 3), (28, vS 0 L.length), (29, vN i), (30, vP 0 (i * 3)), (31, .agg #[vI ((L.getD i default).x), vI ((L.getD i default).y), vI ((L.getD i default).z)]), (32, vI 3), (33, vP 5 9), (34, .agg #[vI 0, vI 1, vI 0])])) (by kernel_rfl) ?_
          refine rW (m := ⟨[], [], []⟩) (v := .agg #[vI ((L.getD i default).x), vI (((L.getD i default).y) + 1), vI ((L.getD i default).z)]) rfl (by kernel_rfl) (stQ (args := [.agg #[vI ((L.getD i default).x), vI ((L.getD i default).y), vI ((L.getD i default).z)], .agg #[vI 0, vI 1, vI 0]]) rfl (by kernel_rfl) (Any.lay0 [] (l6Beside3 ((L.getD i default).x) ((L.getD i default).y) ((L.getD i default).z) (by first | assumption | omega | rfl | decide | exact HeapL.list _ _ _ _ | exact HeapL.nil _ _ _ | exact HeapL.all _ _ _ | (apply HeapL.lt64 <;> assumption) | (repeat' (first | assumption | apply or_lt64 | apply and_lt64 | apply andn_lt64 | apply pow_lt64 | (apply HeapL.lt64 <;> assumption))))) trivial rfl trivial rfl (by first | rfl | simp [mpV, mpA, mpS, mpP, renId, shift]) (by first | rfl | simp [mpV, mpA, mpS, mpP, renId, shift])) rfl (by kernel_rfl) (by kernel_rfl)) (by kernel_rfl) nr0 ?_
          refine rW (m := ⟨[7], [], []⟩) (v := vP 7 0) rfl (by kernel_rfl) (stNew (i := 7) (v1 := vP 8 0) (r := ⟨[vI 0, vI 0, vI 0], 74, true, true⟩) (by kernel_rfl) rfl (by kernel_rfl) (by kernel_rfl) (by kernel_rfl) (by kernel_rfl) (nmX (by kernel_rfl)) (clX (by kernel_rfl))) (by kernel_rfl) (NRs.all ⟨nrOf (by rfl) (nmX (by kernel_rfl)), trivial⟩) ?_
          refine rW (m := ⟨[], [7], []⟩) (v := .tuple #[]) rfl (by kernel_rfl) (stSet (b := 7) (r := ⟨[vI ((L.getD i default).x), vI (((L.getD i default).y) + 1), vI ((L.getD i default).z)], 74, true, true⟩) (by kernel_rfl) rfl (by kernel_rfl) (by kernel_rfl) (by kernel_rfl) (by kernel_rfl) (nmX (by kernel_rfl)) (clX (by kernel_rfl))) (by kernel_rfl) (NRs.all ⟨nrOf (by rfl) (nmX (by kernel_rfl)), trivial⟩) ?_
          refine segEndW [2, 4, 5, 6, 7, 8, 9, 10] (T1 := (mkT 52 [(2, vP 2 0), (4, vP 3 0), (5, vP 4 0), (6, vP 5 0), (7, vP 6 0), (8, vN i), (9, vI 3), (10, vP 7 0)])) (H1 := [some ⟨a3s L, 74, false, false⟩, some ⟨[], 74, false, false⟩, rB [vN X, vN Y, vN Z, vS 0 L.length] 40, rB [vI 0, vI 0, vI 0, vI 0, vI 0, vI 0] 57, rB [vN m0, vN m1, vN m2, vN m3, vN m4, vN m5] 57, rB [vI (-1), vI 0, vI 0, vI 1, vI 0, vI 0, vI 0, vI (-1), vI 0, vI 0, vI 1, vI 0, vI 0, vI 0, vI (-1), vI 0, vI 0, vI 1] 118, rB [vN X, vN Y, vN Z, vS 1 (([] : List A3).length)] 40, rB [vI ((L.getD i default).x), vI (((L.getD i default).y) + 1), vI ((L.getD i default).z)] 74]) (by kernel_rfl) ?_
          refine kSeq ?_
          refine cSeq ?_
          refine cReg ?_
          refine segH 2 (T1 := (mkT 52 [(2, vP 2 0), (4, vP 3 0), (5, vP 4 0), (6, vP 5 0), (7, vP 6 0), (8, vN i), (9, vI 3), (10, vP 7 0), (36, .agg #[vN X, vN Y, vN Z, vS 0 L.length]), (37, .agg #[vI ((L.getD i default).x), vI (((L.getD i default).y) + 1), vI ((L.getD i default).z)])])) (by kernel_rfl) ?_
          refine rCall (v := .bool (hasL L ((L.getD i default).x) (((L.getD i default).y) + 1) ((L.getD i default).z))) (args := [.agg #[vN X, vN Y, vN Z, vS 0 L.length], .agg #[vI ((L.getD i default).x), vI (((L.getD i default).y) + 1), vI ((L.getD i default).z)]]) (by kernel_rfl) rfl (by kernel_rfl) (Sound.lay0 [0] (l2HasB X Y Z L ((L.getD i default).x) (((L.getD i default).y) + 1) ((L.getD i default).z) (by first | assumption | omega | rfl | decide | exact HeapL.list _ _ _ _ | exact HeapL.nil _ _ _ | exact HeapL.all _ _ _ | (apply HeapL.lt64 <;> assumption) | (repeat' (first | assumption | apply or_lt64 | apply and_lt64 | apply andn_lt64 | apply pow_lt64 | (apply HeapL.lt64 <;> assumption)))) (by first | assumption | omega | rfl | decide | exact HeapL.list _ _ _ _ | exact HeapL.nil _ _ _ | exact HeapL.all _ _ _ | (apply HeapL.lt64 <;> assumption) | (repeat' (first | assumption | apply or_lt64 | apply and_lt64 | apply andn_lt64 | apply pow_lt64 | (apply HeapL.lt64 <;> assumption))))) ⟨rdF false (flatA3 _ _ _ _) rfl rfl, trivial⟩ rfl ⟨clF (flatA3 _ _ _ _), trivial⟩ rfl (by first | rfl | simp [mpV, mpA, mpS, mpP, renId, shift]) rfl) ?_
          refine segH 2 (T1 := (mkT 52 [(2, vP 2 0), (4, vP 3 0), (5, vP 4 0), (6, vP 5 0), (7, vP 6 0), (8, vN i), (9, vI 3), (10, vP 7 0), (36, .agg #[vN X, vN Y, vN Z, vS 0 L.length]), (37, .agg #[vI ((L.getD i default).x), vI (((L.getD i default).y) + 1), vI ((L.getD i default).z)]), (38, .bool (hasL L ((L.getD i default).x) (((L.getD i default).y) + 1) ((L.getD i default).z))), (39, .bool (!(hasL L ((L.getD i default).x) (((L.getD i default).y) + 1) ((L.getD i default).z)))), (40, .bool (!(hasL L ((L.getD i default).x) (((L.getD i default).y) + 1) ((L.getD i default).z))))])) (by kernel_rfl) ?_
          cases h8 : (hasL L ((L.getD i default).x) (((L.getD i default).y) + 1) ((L.getD i default).z) : Bool)
          ·
            have h8k := h8
            (try simp only [Bool.not_eq_true', Bool.not_eq_false', decide_eq_true_eq, decide_eq_false_iff_not, beq_iff_eq, bne_iff_ne, beq_eq_false_iff_ne, bne_eq_false_iff_eq, ne_eq, Decidable.not_not, Bool.and_eq_true, Bool.and_eq_false_imp, Bool.or_eq_true, Bool.or_eq_false_iff, Bool.not_eq_true, Int.not_lt, Int.not_le, ge_iff_le, gt_iff_lt] at h8)
            refine seg 2 (T1 := (mkT 52 [(2, vP 2 0), (4, vP 3 0), (5, vP 4 0), (6, vP 5 0), (7, vP 6 0), (8, vN i), (9, vI 3), (10, vP 7 0), (36, .agg #[vN X, vN Y, vN Z, vS 0 L.length]), (37, .agg #[vI ((L.getD i default).x), vI (((L.getD i default).y) + 1), vI ((L.getD i default).z)]), (38, .bool false), (39, .bool true), (40, .bool true), (41, .agg #[vN X, vN Y, vN Z, vS 1 (([] : List A3).length)]), (42, .agg #[vI ((L.getD i default).x), vI (((L.getD i default).y) + 1), vI ((L.getD i default).z)])])) (H1 := [some ⟨a3s L, 74, false, false⟩, some ⟨[], 74, false, false⟩, rB [vN X, vN Y, vN Z, vS 0 L.length] 40, rB [vI 0, vI 0, vI 0, vI 0, vI 0, vI 0] 57, rB [vN m0, vN m1, vN m2, vN m3, vN m4, vN m5] 57, rB [vI (-1), vI 0, vI 0, vI 1, vI 0, vI 0, vI 0, vI (-1), vI 0, vI 0, vI 1, vI 0, vI 0, vI 0, vI (-1), vI 0, vI 0, vI 1] 118, rB [vN X, vN Y, vN Z, vS 1 (([] : List A3).length)] 40, rB [vI ((L.getD i default).x), vI (((L.getD i default).y) + 1), vI ((L.getD i default).z)] 74]) (by kernel_rfl) ?_
            refine rCall (v := .bool (hasL ([] : List A3) ((L.getD i default).x) (((L.getD i default).y) + 1) ((L.getD i default).z))) (args := [.agg #[vN X, vN Y, vN Z, vS 1 (([] : List A3).length)], .agg #[vI ((L.getD i default).x), vI (((L.getD i default).y) + 1), vI ((L.getD i default).z)]]) (by kernel_rfl) rfl (by kernel_rfl) (Sound.lay0 [1] (l2HasB X Y Z ([] : List A3) ((L.getD i default).x) (((L.getD i default).y) + 1) ((L.getD i default).z) (by first | assumption | omega | rfl | decide | exact HeapL.list _ _ _ _ | exact HeapL.nil _ _ _ | exact HeapL.all _ _ _ | (apply HeapL.lt64 <;> assumption) | (repeat' (first | assumption | apply or_lt64 | apply and_lt64 | apply andn_lt64 | apply pow_lt64 | (apply HeapL.lt64 <;> assumption)))) (by first | assumption | omega | rfl | decide | exact HeapL.list _ _ _ _ | exact HeapL.nil _ _ _ | exact HeapL.all _ _ _ | (apply HeapL.lt64 <;> assumption) | (repeat' (first | assumption | apply or_lt64 | apply and_lt64 | apply andn_lt64 | apply pow_lt64 | (apply HeapL.lt64 <;> assumption))))) ⟨rdF false (flatA3 _ _ _ _) rfl rfl, trivial⟩ rfl ⟨clF (flatA3 _ _ _ _), trivial⟩ rfl (by first | rfl | simp [mpV, mpA, mpS, mpP, renId, shift]) rfl) ?_
            refine segEnd [2, 4, 5, 6, 7, 8, 9, 45] (T1 := (mkT 52 [(2, vP 2 0), (4, vP 3 0), (5, vP 4 0), (6, vP 5 0), (7, vP 6 0), (8, vN i), (9, vI 3), (45, .bool (!(hasL ([] : List A3) ((L.getD i default).x) (((L.getD i default).y) + 1) ((L.getD i default).z))))])) (H1 := [some ⟨a3s L, 74, false, false⟩, some ⟨[], 74, false, false⟩, rB [vN X, vN Y, vN Z, vS 0 L.length] 40, rB [vI 0, vI 0, vI 0, vI 0, vI 0, vI 0] 57, rB [vN m0, vN m1, vN m2, vN m3, vN m4, vN m5] 57, rB [vI (-1), vI 0, vI 0, vI 1, vI 0, vI 0, vI 0, vI (-1), vI 0, vI 0, vI 1, vI 0, vI 0, vI 0, vI (-1), vI 0, vI 0, vI 1] 118, rB [vN X, vN Y, vN Z, vS 1 (([] : List A3).length)] 40, rB [vI ((L.getD i default).x), vI (((L.getD i default).y) + 1), vI ((L.getD i default).z)] 74]) (by kernel_rfl) ?_
            refine kSeq ?_
            cases h9 : (hasL ([] : List A3) ((L.getD i default).x) (((L.getD i default).y) + 1) ((L.getD i default).z) : Bool)
            ·
              have h9k := h9
              (try simp only [Bool.not_eq_true', Bool.not_eq_false', decide_eq_true_eq, decide_eq_false_iff_not, beq_iff_eq, bne_iff_ne, beq_eq_false_iff_ne, bne_eq_false_iff_eq, ne_eq, Decidable.not_not, Bool.and_eq_true, Bool.and_eq_false_imp, Bool.or_eq_true, Bool.or_eq_false_iff, Bool.not_eq_true, Int.not_lt, Int.not_le, ge_iff_le, gt_iff_lt] at h9)
              refine cTrue (by kernel_rfl) ?_
              refine cReg ?_
              refine segH 3 (T1 := (mkT 52 [(2, vP 2 0), (4, vP 3 0), (5, vP 4 0), (6, vP 5 0), (7, vP 6 0), (8, vN i), (9, vI 3), (45, .bool true), (46, vI 3), (47, vP 4 3), (48, vN m3)])) (by kernel_rfl) ?_
              refine rOp (v := vN (m3 + 1)) (by kernel_rfl) (eAdd (k := .i64) (a := ((m3 : Nat) : Int)) (b := 1) (c := ((m3 + 1 : Nat) : Int)) (by kernel_rfl) (by kernel_rfl) (wr64 (by omega) (by omega) (by omega))) ?_
              refine segEnd [2, 4, 5, 6, 7, 8, 9] (T1 := (mkT 52 [(2, vP 2 0), (4, vP 3 0), (5, vP 4 0), (6, vP 5 0), (7, vP 6 0), (8, vN i), (9, vI 3)])) (H1 := [some ⟨a3s L, 74, false, false⟩, some ⟨[], 74, false, false⟩, rB [vN X, vN Y, vN Z, vS 0 L.length] 40, rB [vI 0, vI 0, vI 0, vI 0, vI 0, vI 0] 57, rB [vN m0, vN m1, vN m2, vN (m3 + 1), vN m4, vN m5] 57, rB [vI (-1), vI 0, vI 0, vI 1, vI 0, vI 0, vI 0, vI (-1), vI 0, vI 0, vI 1, vI 0, vI 0, vI 0, vI (-1), vI 0, vI 0, vI 1] 118, rB [vN X, vN Y, vN Z, vS 1 (([] : List A3).length)] 40, rB [vI ((L.getD i default).x), vI (((L.getD i default).y) + 1), vI ((L.getD i default).z)] 74]) (by kernel_rfl) ?_
              refine kBlk ?_
              refine kSeq ?_
              refine cReg ?_
              refine segEndH [2, 4, 5, 6, 7, 8, 9] (T1 := (mkT 52 [(2, vP 2 0), (4, vP 3 0), (5, vP 4 0), (6, vP 5 0), (7, vP 6 0), (8, vN i), (9, vI 4)])) (by kernel_rfl) ?_
              exact kLoop (6 - 4) (mkT 52 [(2, vP 2 0), (4, vP 3 0), (5, vP 4 0), (6, vP 5 0), (7, vP 6 0), (8, vN i), (9, vI 4)]) [some ⟨a3s L, 74, false, false⟩, some ⟨[], 74, false, false⟩, rB [vN X, vN Y, vN Z, vS 0 L.length] 40, rB [vI 0, vI 0, vI 0, vI 0, vI 0, vI 0] 57, rB [vN m0, vN m1, vN m2, vN (m3 + 1), vN m4, vN m5] 57, rB [vI (-1), vI 0, vI 0, vI 1, vI 0, vI 0, vI 0, vI (-1), vI 0, vI 0, vI 1, vI 0, vI 0, vI 0, vI (-1), vI 0, vI 0, vI 1] 118, rB [vN X, vN Y, vN Z, vS 1 (([] : List A3).length)] 40] (by omega) (wkDrop [2, 4, 5, 6, 7, 8, 9] _ rfl rfl ((closedL ⟨clF (flatA3 _ _ _ _), ⟨clX rfl, ⟨clX rfl, ⟨clX rfl, ⟨clX rfl, ⟨clX rfl, ⟨clX rfl, trivial⟩⟩⟩⟩⟩⟩⟩)) (by kernel_rfl) rfl) ⟨4, m0, m1, m2, (m3 + 1), m4, m5, (by omega), (hm0), (hm1), (hm2), (by first | exact cntF_yes (by omega) hm3 (by assumption) | exact cntF_no (by omega) hm3 (by assumption)), (hm4), (hm5), rfl, rfl, rfl⟩
            ·
              have h9k := h9
              (try simp only [Bool.not_eq_true', Bool.not_eq_false', decide_eq_true_eq, decide_eq_false_iff_not, beq_iff_eq, bne_iff_ne, beq_eq_false_iff_ne, bne_eq_false_iff_eq, ne_eq, Decidable.not_not, Bool.and_eq_true, Bool.and_eq_false_imp, Bool.or_eq_true, Bool.or_eq_false_iff, Bool.not_eq_true, Int.not_lt, Int.not_le, ge_iff_le, gt_iff_lt] at h9)
              exfalso; (simp [hasL] at h9)
          ·
            have h8k := h8
            (try simp only [Bool.not_eq_true', Bool.not_eq_false', decide_eq_true_eq, decide_eq_false_iff_not, beq_iff_eq, bne_iff_ne, beq_eq_false_iff_ne, bne_eq_false_iff_eq, ne_eq, Decidable.not_not, Bool.and_eq_true, Bool.and_eq_false_imp, Bool.or_eq_true, Bool.or_eq_false_iff, Bool.not_eq_true, Int.not_lt, Int.not_le, ge_iff_le, gt_iff_lt] at h8)
            refine segEnd [2, 4, 5, 6, 7, 8, 9, 45] (T1 := (mkT 52 [(2, vP 2 0), (4, vP 3 0), (5, vP 4 0), (6, vP 5 0), (7, vP 6 0), (8, vN i), (9, vI 3), (45, .bool false)])) (H1 := [some ⟨a3s L, 74, false, false⟩, some ⟨[], 74, false, false⟩, rB [vN X, vN Y, vN Z, vS 0 L.length] 40, rB [vI 0, vI 0, vI 0, vI 0, vI 0, vI 0] 57, rB [vN m0, vN m1, vN m2, vN m3, vN m4, vN m5] 57, rB [vI (-1), vI 0, vI 0, vI 1, vI 0, vI 0, vI 0, vI (-1), vI 0, vI 0, vI 1, vI 0, vI 0, vI 0, vI (-1), vI 0, vI 0, vI 1] 118, rB [vN X, vN Y, vN Z, vS 1 (([] : List A3).length)] 40, rB [vI ((L.getD i default).x), vI (((L.getD i default).y) + 1), vI ((L.getD i default).z)] 74]) (by kernel_rfl) ?_
            refine kSeq ?_
            refine cFalse (by kernel_rfl) ?_
            refine cSkip ?_
            refine kBlk ?_
            refine kSeq ?_
            refine cReg ?_
            refine segEndH [2, 4, 5, 6, 7, 8, 9] (T1 := (mkT 52 [(2, vP 2 0), (4, vP 3 0), (5, vP 4 0), (6, vP 5 0), (7, vP 6 0), (8, vN i), (9, vI 4)])) (by kernel_rfl) ?_
            exact kLoop (6 - 4) (mkT 52 [(2, vP 2 0), (4, vP 3 0), (5, vP 4 0), (6, vP 5 0), (7, vP 6 0), (8, vN i), (9, vI 4)]) [some ⟨a3s L, 74, false, false⟩, some ⟨[], 74, false, false⟩, rB [vN X, vN Y, vN Z, vS 0 L.length] 40, rB [vI 0, vI 0, vI 0, vI 0, vI 0, vI 0] 57, rB [vN m0, vN m1, vN m2, vN m3, vN m4, vN m5] 57, rB [vI (-1), vI 0, vI 0, vI 1, vI 0, vI 0, vI 0, vI (-1), vI 0, vI 0, vI 1, vI 0, vI 0, vI 0, vI (-1), vI 0, vI 0, vI 1] 118, rB [vN X, vN Y, vN Z, vS 1 (([] : List A3).length)] 40] (by omega) (wkDrop [2, 4, 5, 6, 7, 8, 9] _ rfl rfl ((closedL ⟨clF (flatA3 _ _ _ _), ⟨clX rfl, ⟨clX rfl, ⟨clX rfl, ⟨clX rfl, ⟨clX rfl, ⟨clX rfl, trivial⟩⟩⟩⟩⟩⟩⟩)) (by kernel_rfl) rfl) ⟨4, m0, m1, m2, m3, m4, m5, (by omega), (hm0), (hm1), (hm2), (by first | exact cntF_yes (by omega) hm3 (by assumption) | exact cntF_no (by omega) hm3 (by assumption)), (hm4), (hm5), rfl, rfl, rfl⟩
        ·
          refine cSeq ?_
          refine cSeq ?_
          refine cReg ?_
          refine segEndH [2, 4, 5, 6, 7, 8, 9, 24] (T1 := (mkT 52 [(2, vP 2 0), (4, vP 3 0), (5, vP 4 0), (6, vP 5 0), (7, vP 6 0), (8, vN i), (9, vI 4), (24, .bool true)])) (by kernel_rfl) ?_
          refine kSeq ?_
          refine cTrue (by kernel_rfl) ?_
          refine cSkip ?_
          refine kSeq ?_
          refine cSeq ?_
          refine cBlk ?_
          refine cSeq ?_
          refine cRegW (N := 8) [⟨[], [], []⟩, ⟨[], [], [2]⟩, ⟨[], [], []⟩, ⟨[], [], []⟩, ⟨[], [], [0]⟩, ⟨[], [], []⟩, ⟨[], [], []⟩, ⟨[], [], [5]⟩, ⟨[], [], []⟩, ⟨[7], [], []⟩, ⟨[], [7], []⟩] 1 [7] (by rfl) (by rfl) (by kernel_rfl) (by kernel_rfl) (by kernel_rfl) ⟨nmsF (flatA3 _ _ _ _), ⟨nmsX (by kernel_rfl), ⟨nmsX (by kernel_rfl), ⟨nmsX (by kernel_rfl), ⟨nmsX (by kernel_rfl), ⟨nmsX (by kernel_rfl), ⟨nmsX (by kernel_rfl), trivial⟩⟩⟩⟩⟩⟩⟩ ?_
          refine segWH 3 (T1 := (mkT 52 [(2, vP 2 0), (4, vP 3 0), (5, vP 4 0), (6, vP 5 0), (7, vP 6 0), (8, vN i), (9, vI 4), (24, .bool true), (27, vP 2 3), (28, vS 0 L.length), (29, vN i)])) (by kernel_rfl) ?_
          refine rW (m := ⟨[], [], []⟩) (v := vP 0 (i * 3)) rfl (by kernel_rfl) (stId (eIdxS (ad := ⟨0, 0, none⟩) (n := L.length) (m := 0) (k := .i64) (c := ((i : Nat) : Int)) (j := i) (o := i * 3) (by kernel_rfl) (by kernel_rfl) ti31 ti74 (rfl) (by omega) (by exact Nat.zero_add _)) rfl (by kernel_rfl) (by kernel_rfl) (by kernel_rfl)) (by kernel_rfl) nr0 ?_
          refine rW (m := ⟨[], [], [0]⟩) (v := .agg #[vI ((L.getD i default).x), vI ((L.getD i default).y), vI ((L.getD i default).z)]) rfl (by kernel_rfl) (stId (eLdA3 (ad := ⟨0, i * 3, none⟩) (r := ⟨a3s L, 74, false, false⟩) (L := L) (j := i) (by kernel_rfl) (by kernel_rfl) rfl (by first | rfl | omega) (by omega) ti74) rfl (by kernel_rfl) (by kernel_rfl) (by kernel_rfl)) (by kernel_rfl) nr0 ?_
          refine segWH 3 (T1 := (mkT 52 [(2, vP 2 0), (4, vP 3 0), (5, vP 4 0), (6, vP 5 0), (7, vP 6 0), (8, vN i), (9, vI 4), (24, .bool true), (27, vP 2 3), (28, vS 0 L.length), (29, vN i), (30, vP 0 (i * 3)), (31, .agg #[vI ((L.getD i default).x), vI ((L.getD i default).y), vI ((L.getD i default).z)]), (32, vI 4), (33, vP 5 12), (34, .agg #[vI 0, vI 0, vI (-1)])])) (by kernel_rfl) ?_
          refine rW (m := ⟨[], [], []⟩) (v := .agg #[vI ((L.getD i default).x), vI ((L.getD i default).y), vI (((L.getD i default).z) + (-1))]) rfl (by kernel_rfl) (stQ (args := [.agg #[vI ((L.getD i default).x), vI ((L.getD i default).y), vI ((L.getD i default).z)], .agg #[vI 0, vI 0, vI (-1)]]) rfl (by kernel_rfl) (Any.lay0 [] (l6Beside4 ((L.getD i default).x) ((L.getD i default).y) ((L.getD i default).z) (by first | assumption | omega | rfl | decide | exact HeapL.list _ _ _ _ | exact HeapL.nil _ _ _ | exact HeapL.all _ _ _ | (apply HeapL.lt64 <;> assumption) | (repeat' (first | assumption | apply or_lt64 | apply and_lt64 | apply andn_lt64 | apply pow_lt64 | (apply HeapL.lt64 <;> assumption))))) trivial rfl trivial rfl (by first | rfl | simp [mpV, mpA, mpS, mpP, renId, shift]) (by first | rfl | simp [mpV, mpA, mpS, mpP, renId, shift])) rfl (by kernel_rfl) (by kernel_rfl)) (by kernel_rfl) nr0 ?_
          refine rW (m := ⟨[7], [], []⟩) (v := vP 7 0) rfl (by kernel_rfl) (stNew (i := 7) (v1 := vP 8 0) (r := ⟨[vI 0, vI 0, vI 0], 74, true, true⟩) (by kernel_rfl) rfl (by kernel_rfl) (by kernel_rfl) (by kernel_rfl) (by kernel_rfl) (nmX (by kernel_rfl)) (clX (by kernel_rfl))) (by kernel_rfl) (NRs.all ⟨nrOf (by rfl) (nmX (by kernel_rfl)), trivial⟩) ?_
          refine rW (m := ⟨[], [7], []⟩) (v := .tuple #[]) rfl (by kernel_rfl) (stSet (b := 7) (r := ⟨[vI ((L.getD i default).x), vI ((L.getD i default).y), vI (((L.getD i default).z) + (-1))], 74, true, true⟩) (by kernel_rfl) rfl (by kernel_rfl) (by kernel_rfl) (by kernel_rfl) (by kernel_rfl) (nmX (by kernel_rfl)) (clX (by kernel_rfl))) (by kernel_rfl) (NRs.all ⟨nrOf (by rfl) (nmX (by kernel_rfl)), trivial⟩) ?_
          refine segEndW [2, 4, 5, 6, 7, 8, 9, 10] (T1 := (mkT 52 [(2, vP 2 0), (4, vP 3 0), (5, vP 4 0), (6, vP 5 0), (7, vP 6 0), (8, vN i), (9, vI 4), (10, vP 7 0)])) (H1 := [some ⟨a3s L, 74, false, false⟩, some ⟨[], 74, false, false⟩, rB [vN X, vN Y, vN Z, vS 0 L.length] 40, rB [vI 0, vI 0, vI 0, vI 0, vI 0, vI 0] 57, rB [vN m0, vN m1, vN m2, vN m3, vN m4, vN m5] 57, rB [vI (-1), vI 0, vI 0, vI 1, vI 0, vI 0, vI 0, vI (-1), vI 0, vI 0, vI 1, vI 0, vI 0, vI 0, vI (-1), vI 0, vI 0, vI 1] 118, rB [vN X, vN Y, vN Z, vS 1 (([] : List A3).length)] 40, rB [vI ((L.getD i default).x), vI ((L.getD i default).y), vI (((L.getD i default).z) + (-1))] 74]) (by kernel_rfl) ?_
          refine kSeq ?_
          refine cSeq ?_
          refine cReg ?_
          refine segH 2 (T1 := (mkT 52 [(2, vP 2 0), (4, vP 3 0), (5, vP 4 0), (6, vP 5 0), (7, vP 6 0), (8, vN i), (9, vI 4), (10, vP 7 0), (36, .agg #[vN X, vN Y, vN Z, vS 0 L.length]), (37, .agg #[vI ((L.getD i default).x), vI ((L.getD i default).y), vI (((L.getD i default).z) + (-1))])])) (by kernel_rfl) ?_
          refine rCall (v := .bool (hasL L ((L.getD i default).x) ((L.getD i default).y) (((L.getD i default).z) + (-1)))) (args := [.agg #[vN X, vN Y, vN Z, vS 0 L.length], .agg #[vI ((L.getD i default).x), vI ((L.getD i default).y), vI (((L.getD i default).z) + (-1))]]) (by kernel_rfl) rfl (by kernel_rfl) (Sound.lay0 [0] (l2HasB X Y Z L ((L.getD i default).x) ((L.getD i default).y) (((L.getD i default).z) + (-1)) (by first | assumption | omega | rfl | decide | exact HeapL.list _ _ _ _ | exact HeapL.nil _ _ _ | exact HeapL.all _ _ _ | (apply HeapL.lt64 <;> assumption) | (repeat' (first | assumption | apply or_lt64 | apply and_lt64 | apply andn_lt64 | apply pow_lt64 | (apply HeapL.lt64 <;> assumption)))) (by first | assumption | omega | rfl | decide | exact HeapL.list _ _ _ _ | exact HeapL.nil _ _ _ | exact HeapL.all _ _ _ | (apply HeapL.lt64 <;> assumption) | (repeat' (first | assumption | apply or_lt64 | apply and_lt64 | apply andn_lt64 | apply pow_lt64 | (apply HeapL.lt64 <;> assumption))))) ⟨rdF false (flatA3 _ _ _ _) rfl rfl, trivial⟩ rfl ⟨clF (flatA3 _ _ _ _), trivial⟩ rfl (by first | rfl | simp [mpV, mpA, mpS, mpP, renId, shift]) rfl) ?_
          refine segH 2 (T1 := (mkT 52 [(2, vP 2 0), (4, vP 3 0), (5, vP 4 0), (6, vP 5 0), (7, vP 6 0), (8, vN i), (9, vI 4), (10, vP 7 0), (36, .agg #[vN X, vN Y, vN Z, vS 0 L.length]), (37, .agg #[vI ((L.getD i default).x), vI ((L.getD i default).y), vI (((L.getD i default).z) + (-1))]), (38, .bool (hasL L ((L.getD i default).x) ((L.getD i default).y) (((L.getD i default).z) + (-1)))), (39, .bool (!(hasL L ((L.getD i default).x) ((L.getD i default).y) (((L.getD i default).z) + (-1))))), (40, .bool (!(hasL L ((L.getD i default).x) ((L.getD i default).y) (((L.getD i default).z) + (-1)))))])) (by kernel_rfl) ?_
          cases h10 : (hasL L ((L.getD i default).x) ((L.getD i default).y) (((L.getD i default).z) + (-1)) : Bool)
          ·
            have h10k := h10
            (try simp only [Bool.not_eq_true', Bool.not_eq_false', decide_eq_true_eq, decide_eq_false_iff_not, beq_iff_eq, bne_iff_ne, beq_eq_false_iff_ne, bne_eq_false_iff_eq, ne_eq, Decidable.not_not, Bool.and_eq_true, Bool.and_eq_false_imp, Bool.or_eq_true, Bool.or_eq_false_iff, Bool.not_eq_true, Int.not_lt, Int.not_le, ge_iff_le, gt_iff_lt] at h10)
            refine seg 2 (T1 := (mkT 52 [(2, vP 2 0), (4, vP 3 0), (5, vP 4 0), (6, vP 5 0), (7, vP 6 0), (8, vN i), (9, vI 4), (10, vP 7 0), (36, .agg #[vN X, vN Y, vN Z, vS 0 L.length]), (37, .agg #[vI ((L.getD i default).x), vI ((L.getD i default).y), vI (((L.getD i default).z) + (-1))]), (38, .bool false), (39, .bool true), (40, .bool true), (41, .agg #[vN X, vN Y, vN Z, vS 1 (([] : List A3).length)]), (42, .agg #[vI ((L.getD i default).x), vI ((L.getD i default).y), vI (((L.getD i default).z) + (-1))])])) (H1 := [some ⟨a3s L, 74, false, false⟩, some ⟨[], 74, false, false⟩, rB [vN X, vN Y, vN Z, vS 0 L.length] 40, rB [vI 0, vI 0, vI 0, vI 0, vI 0, vI 0] 57, rB [vN m0, vN m1, vN m2, vN m3, vN m4, vN m5] 57, rB [vI (-1), vI 0, vI 0, vI 1, vI 0, vI 0, vI 0, vI (-1), vI 0, vI 0, vI 1, vI 0, vI 0, vI 0, vI (-1), vI 0, vI 0, vI 1] 118, rB [vN X, vN Y, vN Z, vS 1 (([] : List A3).length)] 40, rB [vI ((L.getD i default).x), vI ((L.getD i default).y), vI (((L.getD i default).z) + (-1))] 74]) (by kernel_rfl) ?_
            refine rCall (v := .bool (hasL ([] : List A3) ((L.getD i default).x) ((L.getD i default).y) (((L.getD i default).z) + (-1)))) (args := [.agg #[vN X, vN Y, vN Z, vS 1 (([] : List A3).length)], .agg #[vI ((L.getD i default).x), vI ((L.getD i default).y), vI (((L.getD i default).z) + (-1))]]) (by kernel_rfl) rfl (by kernel_rfl) (Sound.lay0 [1] (l2HasB X Y Z ([] : List A3) ((L.getD i default).x) ((L.getD i default).y) (((L.getD i default).z) + (-1)) (by first | assumption | omega | rfl | decide | exact HeapL.list _ _ _ _ | exact HeapL.nil _ _ _ | exact HeapL.all _ _ _ | (apply HeapL.lt64 <;> assumption) | (repeat' (first | assumption | apply or_lt64 | apply and_lt64 | apply andn_lt64 | apply pow_lt64 | (apply HeapL.lt64 <;> assumption)))) (by first | assumption | omega | rfl | decide | exact HeapL.list _ _ _ _ | exact HeapL.nil _ _ _ | exact HeapL.all _ _ _ | (apply HeapL.lt64 <;> assumption) | (repeat' (first | assumption | apply or_lt64 | apply and_lt64 | apply andn_lt64 | apply pow_lt64 | (apply HeapL.lt64 <;> assumption))))) ⟨rdF false (flatA3 _ _ _ _) rfl rfl, trivial⟩ rfl ⟨clF (flatA3 _ _ _ _), trivial⟩ rfl (by first | rfl | simp [mpV, mpA, mpS, mpP, renId, shift]) rfl) ?_
            refine segEnd [2, 4, 5, 6, 7, 8, 9, 45] (T1 := (mkT 52 [(2, vP 2 0), (4, vP 3 0), (5, vP 4 0), (6, vP 5 0), (7, vP 6 0), (8, vN i), (9, vI 4), (45, .bool (!(hasL ([] : List A3) ((L.getD i default).x) ((L.getD i default).y) (((L.getD i default).z) + (-1)))))])) (H1 := [some ⟨a3s L, 74, false, false⟩, some ⟨[], 74, false, false⟩, rB [vN X, vN Y, vN Z, vS 0 L.length] 40, rB [vI 0, vI 0, vI 0, vI 0, vI 0, vI 0] 57, rB [vN m0, vN m1, vN m2, vN m3, vN m4, vN m5] 57, rB [vI (-1), vI 0, vI 0, vI 1, vI 0, vI 0, vI 0, vI (-1), vI 0, vI 0, vI 1, vI 0, vI 0, vI 0, vI (-1), vI 0, vI 0, vI 1] 118, rB [vN X, vN Y, vN Z, vS 1 (([] : List A3).length)] 40, rB [vI ((L.getD i default).x), vI ((L.getD i default).y), vI (((L.getD i default).z) + (-1))] 74]) (by kernel_rfl) ?_
            refine kSeq ?_
            cases h11 : (hasL ([] : List A3) ((L.getD i default).x) ((L.getD i default).y) (((L.getD i default).z) + (-1)) : Bool)
            ·
              have h11k := h11
              (try simp only [Bool.not_eq_true', Bool.not_eq_false', decide_eq_true_eq, decide_eq_false_iff_not, beq_iff_eq, bne_iff_ne, beq_eq_false_iff_ne, bne_eq_false_iff_eq, ne_eq, Decidable.not_not, Bool.and_eq_true, Bool.and_eq_false_imp, Bool.or_eq_true, Bool.or_eq_false_iff, Bool.not_eq_true, Int.not_lt, Int.not_le, ge_iff_le, gt_iff_lt] at h11)
              refine cTrue (by kernel_rfl) ?_
              refine cReg ?_
              refine segH 3 (T1 := (mkT 52 [(2, vP 2 0), (4, vP 3 0), (5, vP 4 0), (6, vP 5 0), (7, vP 6 0), (8, vN i), (9, vI 4), (45, .bool true), (46, vI 4), (47, vP 4 4), (48, vN m4)])) (by kernel_rfl) ?_
              refine rOp (v := vN (m4 + 1)) (by kernel_rfl) (eAdd (k := .i64) (a := ((m4 : Nat) : Int)) (b := 1) (c := ((m4 + 1 : Nat) : Int)) (by kernel_rfl) (by kernel_rfl) (wr64 (by omega) (by omega) (by omega))) ?_
              refine segEnd [2, 4, 5, 6, 7, 8, 9] (T1 := (mkT 52 [(2, vP 2 0), (4, vP 3 0), (5, vP 4 0), (6, vP 5 0), (7, vP 6 0), (8, vN i), (9, vI 4)])) (H1 := [some ⟨a3s L, 74, false, false⟩, some ⟨[], 74, false, false⟩, rB [vN X, vN Y, vN Z, vS 0 L.length] 40, rB [vI 0, vI 0, vI 0, vI 0, vI 0, vI 0] 57, rB [vN m0, vN m1, vN m2, vN m3, vN (m4 + 1), vN m5] 57, rB [vI (-1), vI 0, vI 0, vI 1, vI 0, vI 0, vI 0, vI (-1), vI 0, vI 0, vI 1, vI 0, vI 0, vI 0, vI (-1), vI 0, vI 0, vI 1] 118, rB [vN X, vN Y, vN Z, vS 1 (([] : List A3).length)] 40, rB [vI ((L.getD i default).x), vI ((L.getD i default).y), vI (((L.getD i default).z) + (-1))] 74]) (by kernel_rfl) ?_
              refine kBlk ?_
              refine kSeq ?_
              refine cReg ?_
              refine segEndH [2, 4, 5, 6, 7, 8, 9] (T1 := (mkT 52 [(2, vP 2 0), (4, vP 3 0), (5, vP 4 0), (6, vP 5 0), (7, vP 6 0), (8, vN i), (9, vI 5)])) (by kernel_rfl) ?_
              exact kLoop (6 - 5) (mkT 52 [(2, vP 2 0), (4, vP 3 0), (5, vP 4 0), (6, vP 5 0), (7, vP 6 0), (8, vN i), (9, vI 5)]) [some ⟨a3s L, 74, false, false⟩, some ⟨[], 74, false, false⟩, rB [vN X, vN Y, vN Z, vS 0 L.length] 40, rB [vI 0, vI 0, vI 0, vI 0, vI 0, vI 0] 57, rB [vN m0, vN m1, vN m2, vN m3, vN (m4 + 1), vN m5] 57, rB [vI (-1), vI 0, vI 0, vI 1, vI 0, vI 0, vI 0, vI (-1), vI 0, vI 0, vI 1, vI 0, vI 0, vI 0, vI (-1), vI 0, vI 0, vI 1] 118, rB [vN X, vN Y, vN Z, vS 1 (([] : List A3).length)] 40] (by omega) (wkDrop [2, 4, 5, 6, 7, 8, 9] _ rfl rfl ((closedL ⟨clF (flatA3 _ _ _ _), ⟨clX rfl, ⟨clX rfl, ⟨clX rfl, ⟨clX rfl, ⟨clX rfl, ⟨clX rfl, trivial⟩⟩⟩⟩⟩⟩⟩)) (by kernel_rfl) rfl) ⟨5, m0, m1, m2, m3, (m4 + 1), m5, (by omega), (hm0), (hm1), (hm2), (hm3), (by first | exact cntF_yes (by omega) hm4 (by assumption) | exact cntF_no (by omega) hm4 (by assumption)), (hm5), rfl, rfl, rfl⟩
            ·
              have h11k := h11
              (try simp only [Bool.not_eq_true', Bool.not_eq_false', decide_eq_true_eq, decide_eq_false_iff_not, beq_iff_eq, bne_iff_ne, beq_eq_false_iff_ne, bne_eq_false_iff_eq, ne_eq, Decidable.not_not, Bool.and_eq_true, Bool.and_eq_false_imp, Bool.or_eq_true, Bool.or_eq_false_iff, Bool.not_eq_true, Int.not_lt, Int.not_le, ge_iff_le, gt_iff_lt] at h11)
              exfalso; (simp [hasL] at h11)
          ·
            have h10k := h10
            (try simp only [Bool.not_eq_true', Bool.not_eq_false', decide_eq_true_eq, decide_eq_false_iff_not, beq_iff_eq, bne_iff_ne, beq_eq_false_iff_ne, bne_eq_false_iff_eq, ne_eq, Decidable.not_not, Bool.and_eq_true, Bool.and_eq_false_imp, Bool.or_eq_true, Bool.or_eq_false_iff, Bool.not_eq_true, Int.not_lt, Int.not_le, ge_iff_le, gt_iff_lt] at h10)
            refine segEnd [2, 4, 5, 6, 7, 8, 9, 45] (T1 := (mkT 52 [(2, vP 2 0), (4, vP 3 0), (5, vP 4 0), (6, vP 5 0), (7, vP 6 0), (8, vN i), (9, vI 4), (45, .bool false)])) (H1 := [some ⟨a3s L, 74, false, false⟩, some ⟨[], 74, false, false⟩, rB [vN X, vN Y, vN Z, vS 0 L.length] 40, rB [vI 0, vI 0, vI 0, vI 0, vI 0, vI 0] 57, rB [vN m0, vN m1, vN m2, vN m3, vN m4, vN m5] 57, rB [vI (-1), vI 0, vI 0, vI 1, vI 0, vI 0, vI 0, vI (-1), vI 0, vI 0, vI 1, vI 0, vI 0, vI 0, vI (-1), vI 0, vI 0, vI 1] 118, rB [vN X, vN Y, vN Z, vS 1 (([] : List A3).length)] 40, rB [vI ((L.getD i default).x), vI ((L.getD i default).y), vI (((L.getD i default).z) + (-1))] 74]) (by kernel_rfl) ?_
            refine kSeq ?_
            refine cFalse (by kernel_rfl) ?_
            refine cSkip ?_
            refine kBlk ?_
            refine kSeq ?_
            refine cReg ?_
            refine segEndH [2, 4, 5, 6, 7, 8, 9] (T1 := (mkT 52 [(2, vP 2 0), (4, vP 3 0), (5, vP 4 0), (6, vP 5 0), (7, vP 6 0), (8, vN i), (9, vI 5)])) (by kernel_rfl) ?_
            exact kLoop (6 - 5) (mkT 52 [(2, vP 2 0), (4, vP 3 0), (5, vP 4 0), (6, vP 5 0), (7, vP 6 0), (8, vN i), (9, vI 5)]) [some ⟨a3s L, 74, false, false⟩, some ⟨[], 74, false, false⟩, rB [vN X, vN Y, vN Z, vS 0 L.length] 40, rB [vI 0, vI 0, vI 0, vI 0, vI 0, vI 0] 57, rB [vN m0, vN m1, vN m2, vN m3, vN m4, vN m5] 57, rB [vI (-1), vI 0, vI 0, vI 1, vI 0, vI 0, vI 0, vI (-1), vI 0, vI 0, vI 1, vI 0, vI 0, vI 0, vI (-1), vI 0, vI 0, vI 1] 118, rB [vN X, vN Y, vN Z, vS 1 (([] : List A3).length)] 40] (by omega) (wkDrop [2, 4, 5, 6, 7, 8, 9] _ rfl rfl ((closedL ⟨clF (flatA3 _ _ _ _), ⟨clX rfl, ⟨clX rfl, ⟨clX rfl, ⟨clX rfl, ⟨clX rfl, ⟨clX rfl, trivial⟩⟩⟩⟩⟩⟩⟩)) (by kernel_rfl) rfl) ⟨5, m0, m1, m2, m3, m4, m5, (by omega), (hm0), (hm1), (hm2), (hm3), (by first | exact cntF_yes (by omega) hm4 (by assumption) | exact cntF_no (by omega) hm4 (by assumption)), (hm5), rfl, rfl, rfl⟩
        ·
          refine cSeq ?_
          refine cSeq ?_
          refine cReg ?_
          refine segEndH [2, 4, 5, 6, 7, 8, 9, 24] (T1 := (mkT 52 [(2, vP 2 0), (4, vP 3 0), (5, vP 4 0), (6, vP 5 0), (7, vP 6 0), (8, vN i), (9, vI 5), (24, .bool true)])) (by kernel_rfl) ?_
          refine kSeq ?_
          refine cTrue (by kernel_rfl) ?_
          refine cSkip ?_
          refine kSeq ?_
          refine cSeq ?_
          refine cBlk ?_
          refine cSeq ?_
          refine cRegW (N := 8) [⟨[], [], []⟩, ⟨[], [], [2]⟩, ⟨[], [], []⟩, ⟨[], [], []⟩, ⟨[], [], [0]⟩, ⟨[], [], []⟩, ⟨[], [], []⟩, ⟨[], [], [5]⟩, ⟨[], [], []⟩, ⟨[7], [], []⟩, ⟨[], [7], []⟩] 1 [7] (by rfl) (by rfl) (by kernel_rfl) (by kernel_rfl) (by kernel_rfl) ⟨nmsF (flatA3 _ _ _ _), ⟨nmsX (by kernel_rfl), ⟨nmsX (by kernel_rfl), ⟨nmsX (by kernel_rfl), ⟨nmsX (by kernel_rfl), ⟨nmsX (by kernel_rfl), ⟨nmsX (by kernel_rfl), trivial⟩⟩⟩⟩⟩⟩⟩ ?_
          refine segWH 3 (T1 := (mkT 52 [(2, vP 2 0), (4, vP 3 0), (5, vP 4 0), (6, vP 5 0), (7, vP 6 0), (8, vN i), (9, vI 5), (24, .bool true), (27, vP 2 3), (28, vS 0 L.length), (29, vN i)])) (by kernel_rfl) ?_
          refine rW (m := ⟨[], [], []⟩) (v := vP 0 (i * 3)) rfl (by kernel_rfl) (stId (eIdxS (ad := ⟨0, 0, none⟩) (n := L.length) (m := 0) (k := .i64) (c := ((i : Nat) : Int)) (j := i) (o := i * 3) (by kernel_rfl) (by kernel_rfl) ti31 ti74 (rfl) (by omega) (by exact Nat.zero_add _)) rfl (by kernel_rfl) (by kernel_rfl) (by kernel_rfl)) (by kernel_rfl) nr0 ?_
          refine rW (m := ⟨[], [], [0]⟩) (v := .agg #[vI ((L.getD i default).x), vI ((L.getD i default).y), vI ((L.getD i default).z)]) rfl (by kernel_rfl) (stId (eLdA3 (ad := ⟨0, i * 3, none⟩) (r := ⟨a3s L, 74, false, false⟩) (L := L) (j := i) (by kernel_rfl) (by kernel_rfl) rfl (by first | rfl | omega) (by omega) ti74) rfl (by kernel_rfl) (by kernel_rfl) (by kernel_rfl)) (by kernel_rfl) nr0 ?_
          refine segWH 3 (T1 := (mkT 52 [(2, vP 2 0), (4, vP 3 0), (5, vP 4 0), (6, vP 5 0), (7, vP 6 0), (8, vN i), (9, vI 5), (24, .bool true), (27, vP 2 3), (28, vS 0 L.length), (29, vN i), (30, vP 0 (i * 3)), (31, .agg #[vI ((L.getD i default).x), vI ((L.getD i default).y), vI ((L.getD i default).z)]), (32, vI 5), (33, vP 5 15), (34, .agg #[vI 0, vI 0, vI 1])])) (by kernel_rfl) ?_
          refine rW (m := ⟨[], [], []⟩) (v := .agg #[vI ((L.getD i default).x), vI ((L.getD i default).y), vI (((L.getD i default).z) + 1)]) rfl (by kernel_rfl) (stQ (args := [.agg #[vI ((L.getD i default).x), vI ((L.getD i default).y), vI ((L.getD i default).z)], .agg #[vI 0, vI 0, vI 1]]) rfl (by kernel_rfl) (Any.lay0 [] (l6Beside5 ((L.getD i default).x) ((L.getD i default).y) ((L.getD i default).z) (by first | assumption | omega | rfl | decide | exact HeapL.list _ _ _ _ | exact HeapL.nil _ _ _ | exact HeapL.all _ _ _ | (apply HeapL.lt64 <;> assumption) | (repeat' (first | assumption | apply or_lt64 | apply and_lt64 | apply andn_lt64 | apply pow_lt64 | (apply HeapL.lt64 <;> assumption))))) trivial rfl trivial rfl (by first | rfl | simp [mpV, mpA, mpS, mpP, renId, shift]) (by first | rfl | simp [mpV, mpA, mpS, mpP, renId, shift])) rfl (by kernel_rfl) (by kernel_rfl)) (by kernel_rfl) nr0 ?_
          refine rW (m := ⟨[7], [], []⟩) (v := vP 7 0) rfl (by kernel_rfl) (stNew (i := 7) (v1 := vP 8 0) (r := ⟨[vI 0, vI 0, vI 0], 74, true, true⟩) (by kernel_rfl) rfl (by kernel_rfl) (by kernel_rfl) (by kernel_rfl) (by kernel_rfl) (nmX (by kernel_rfl)) (clX (by kernel_rfl))) (by kernel_rfl) (NRs.all ⟨nrOf (by rfl) (nmX (by kernel_rfl)), trivial⟩) ?_
          refine rW (m := ⟨[], [7], []⟩) (v := .tuple #[]) rfl (by kernel_rfl) (stSet (b := 7) (r := ⟨[vI ((L.getD i default).x), vI ((L.getD i default).y), vI (((L.getD i default).z) + 1)], 74, true, true⟩) (by kernel_rfl) rfl (by kernel_rfl) (by kernel_rfl) (by kernel_rfl) (by kernel_rfl) (nmX (by kernel_rfl)) (clX (by kernel_rfl))) (by kernel_rfl) (NRs.all ⟨nrOf (by rfl) (nmX (by kernel_rfl)), trivial⟩) ?_
          refine segEndW [2, 4, 5, 6, 7, 8, 9, 10] (T1 := (mkT 52 [(2, vP 2 0), (4, vP 3 0), (5, vP 4 0), (6, vP 5 0), (7, vP 6 0), (8, vN i), (9, vI 5), (10, vP 7 0)])) (H1 := [some ⟨a3s L, 74, false, false⟩, some ⟨[], 74, false, false⟩, rB [vN X, vN Y, vN Z, vS 0 L.length] 40, rB [vI 0, vI 0, vI 0, vI 0, vI 0, vI 0] 57, rB [vN m0, vN m1, vN m2, vN m3, vN m4, vN m5] 57, rB [vI (-1), vI 0, vI 0, vI 1, vI 0, vI 0, vI 0, vI (-1), vI 0, vI 0, vI 1, vI 0, vI 0, vI 0, vI (-1), vI 0, vI 0, vI 1] 118, rB [vN X, vN Y, vN Z, vS 1 (([] : List A3).length)] 40, rB [vI ((L.getD i default).x), vI ((L.getD i default).y), vI (((L.getD i default).z) + 1)] 74]) (by kernel_rfl) ?_
          refine kSeq ?_
          refine cSeq ?_
          refine cReg ?_
          refine segH 2 (T1 := (mkT 52 [(2, vP 2 0), (4, vP 3 0), (5, vP 4 0), (6, vP 5 0), (7, vP 6 0), (8, vN i), (9, vI 5), (10, vP 7 0), (36, .agg #[vN X, vN Y, vN Z, vS 0 L.length]), (37, .agg #[vI ((L.getD i default).x), vI ((L.getD i default).y), vI (((L.getD i default).z) + 1)])])) (by kernel_rfl) ?_
          refine rCall (v := .bool (hasL L ((L.getD i default).x) ((L.getD i default).y) (((L.getD i default).z) + 1))) (args := [.agg #[vN X, vN Y, vN Z, vS 0 L.length], .agg #[vI ((L.getD i default).x), vI ((L.getD i default).y), vI (((L.getD i default).z) + 1)]]) (by kernel_rfl) rfl (by kernel_rfl) (Sound.lay0 [0] (l2HasB X Y Z L ((L.getD i default).x) ((L.getD i default).y) (((L.getD i default).z) + 1) (by first | assumption | omega | rfl | decide | exact HeapL.list _ _ _ _ | exact HeapL.nil _ _ _ | exact HeapL.all _ _ _ | (apply HeapL.lt64 <;> assumption) | (repeat' (first | assumption | apply or_lt64 | apply and_lt64 | apply andn_lt64 | apply pow_lt64 | (apply HeapL.lt64 <;> assumption)))) (by first | assumption | omega | rfl | decide | exact HeapL.list _ _ _ _ | exact HeapL.nil _ _ _ | exact HeapL.all _ _ _ | (apply HeapL.lt64 <;> assumption) | (repeat' (first | assumption | apply or_lt64 | apply and_lt64 | apply andn_lt64 | apply pow_lt64 | (apply HeapL.lt64 <;> assumption))))) ⟨rdF false (flatA3 _ _ _ _) rfl rfl, trivial⟩ rfl ⟨clF (flatA3 _ _ _ _), trivial⟩ rfl (by first | rfl | simp [mpV, mpA, mpS, mpP, renId, shift]) rfl) ?_
          refine segH 2 (T1 := (mkT 52 [(2, vP 2 0), (4, vP 3 0), (5, vP 4 0), (6, vP 5 0), (7, vP 6 0), (8, vN i), (9, vI 5), (10, vP 7 0), (36, .agg #[vN X, vN Y, vN Z, vS 0 L.length]), (37, .agg #[vI ((L.getD i default).x), vI ((L.getD i default).y), vI (((L.getD i default).z) + 1)]), (38, .bool (hasL L ((L.getD i default).x) ((L.getD i default).y) (((L.getD i default).z) + 1))), (39, .bool (!(hasL L ((L.getD i default).x) ((L.getD i default).y) (((L.getD i default).z) + 1)))), (40, .bool (!(hasL L ((L.getD i default).x) ((L.getD i default).y) (((L.getD i default).z) + 1))))])) (by kernel_rfl) ?_
          cases h12 : (hasL L ((L.getD i default).x) ((L.getD i default).y) (((L.getD i default).z) + 1) : Bool)
          ·
            have h12k := h12
            (try simp only [Bool.not_eq_true', Bool.not_eq_false', decide_eq_true_eq, decide_eq_false_iff_not, beq_iff_eq, bne_iff_ne, beq_eq_false_iff_ne, bne_eq_false_iff_eq, ne_eq, Decidable.not_not, Bool.and_eq_true, Bool.and_eq_false_imp, Bool.or_eq_true, Bool.or_eq_false_iff, Bool.not_eq_true, Int.not_lt, Int.not_le, ge_iff_le, gt_iff_lt] at h12)
            refine seg 2 (T1 := (mkT 52 [(2, vP 2 0), (4, vP 3 0), (5, vP 4 0), (6, vP 5 0), (7, vP 6 0), (8, vN i), (9, vI 5), (10, vP 7 0), (36, .agg #[vN X, vN Y, vN Z, vS 0 L.length]), (37, .agg #[vI ((L.getD i default).x), vI ((L.getD i default).y), vI (((L.getD i default).z) + 1)]), (38, .bool false), (39, .bool true), (40, .bool true), (41, .agg #[vN X, vN Y, vN Z, vS 1 (([] : List A3).length)]), (42, .agg #[vI ((L.getD i default).x), vI ((L.getD i default).y), vI (((L.getD i default).z) + 1)])])) (H1 := [some ⟨a3s L, 74, false, false⟩, some ⟨[], 74, false, false⟩, rB [vN X, vN Y, vN Z, vS 0 L.length] 40, rB [vI 0, vI 0, vI 0, vI 0, vI 0, vI 0] 57, rB [vN m0, vN m1, vN m2, vN m3, vN m4, vN m5] 57, rB [vI (-1), vI 0, vI 0, vI 1, vI 0, vI 0, vI 0, vI (-1), vI 0, vI 0, vI 1, vI 0, vI 0, vI 0, vI (-1), vI 0, vI 0, vI 1] 118, rB [vN X, vN Y, vN Z, vS 1 (([] : List A3).length)] 40, rB [vI ((L.getD i default).x), vI ((L.getD i default).y), vI (((L.getD i default).z) + 1)] 74]) (by kernel_rfl) ?_
            refine rCall (v := .bool (hasL ([] : List A3) ((L.getD i default).x) ((L.getD i default).y) (((L.getD i default).z) + 1))) (args := [.agg #[vN X, vN Y, vN Z, vS 1 (([] : List A3).length)], .agg #[vI ((L.getD i default).x), vI ((L.getD i default).y), vI (((L.getD i default).z) + 1)]]) (by kernel_rfl) rfl (by kernel_rfl) (Sound.lay0 [1] (l2HasB X Y Z ([] : List A3) ((L.getD i default).x) ((L.getD i default).y) (((L.getD i default).z) + 1) (by first | assumption | omega | rfl | decide | exact HeapL.list _ _ _ _ | exact HeapL.nil _ _ _ | exact HeapL.all _ _ _ | (apply HeapL.lt64 <;> assumption) | (repeat' (first | assumption | apply or_lt64 | apply and_lt64 | apply andn_lt64 | apply pow_lt64 | (apply HeapL.lt64 <;> assumption)))) (by first | assumption | omega | rfl | decide | exact HeapL.list _ _ _ _ | exact HeapL.nil _ _ _ | exact HeapL.all _ _ _ | (apply HeapL.lt64 <;> assumption) | (repeat' (first | assumption | apply or_lt64 | apply and_lt64 | apply andn_lt64 | apply pow_lt64 | (apply HeapL.lt64 <;> assumption))))) ⟨rdF false (flatA3 _ _ _ _) rfl rfl, trivial⟩ rfl ⟨clF (flatA3 _ _ _ _), trivial⟩ rfl (by first | rfl | simp [mpV, mpA, mpS, mpP, renId, shift]) rfl) ?_
            refine segEnd [2, 4, 5, 6, 7, 8, 9, 45] (T1 := (mkT 52 [(2, vP 2 0), (4, vP 3 0), (5, vP 4 0), (6, vP 5 0), (7, vP 6 0), (8, vN i), (9, vI 5), (45, .bool (!(hasL ([] : List A3) ((L.getD i default).x) ((L.getD i default).y) (((L.getD i default).z) + 1))))])) (H1 := [some ⟨a3s L, 74, false, false⟩, some ⟨[], 74, false, false⟩, rB [vN X, vN Y, vN Z, vS 0 L.length] 40, rB [vI 0, vI 0, vI 0, vI 0, vI 0, vI 0] 57, rB [vN m0, vN m1, vN m2, vN m3, vN m4, vN m5] 57, rB [vI (-1), vI 0, vI 0, vI 1, vI 0, vI 0, vI 0, vI (-1), vI 0, vI 0, vI 1, vI 0, vI 0, vI 0, vI (-1), vI 0, vI 0, vI 1] 118, rB [vN X, vN Y, vN Z, vS 1 (([] : List A3).length)] 40, rB [vI ((L.getD i default).x), vI ((L.getD i default).y), vI (((L.getD i default).z) + 1)] 74]) (by kernel_rfl) ?_
            refine kSeq ?_
            cases h13 : (hasL ([] : List A3) ((L.getD i default).x) ((L.getD i default).y) (((L.getD i default).z) + 1) : Bool)
            ·
              have h13k := h13
              (try simp only [Bool.not_eq_true', Bool.not_eq_false', decide_eq_true_eq, decide_eq_false_iff_not, beq_iff_eq, bne_iff_ne, beq_eq_false_iff_ne, bne_eq_false_iff_eq, ne_eq, Decidable.not_not, Bool.and_eq_true, Bool.and_eq_false_imp, Bool.or_eq_true, Bool.or_eq_false_iff, Bool.not_eq_true, Int.not_lt, Int.not_le, ge_iff_le, gt_iff_lt] at h13)
              refine cTrue (by kernel_rfl) ?_
              refine cReg ?_
              refine segH 3 (T1 := (mkT 52 [(2, vP 2 0), (4, vP 3 0), (5, vP 4 0), (6, vP 5 0), (7, vP 6 0), (8, vN i), (9, vI 5), (45, .bool true), (46, vI 5), (47, vP 4 5), (48, vN m5)])) (by kernel_rfl) ?_
              refine rOp (v := vN (m5 + 1)) (by kernel_rfl) (eAdd (k := .i64) (a := ((m5 : Nat) : Int)) (b := 1) (c := ((m5 + 1 : Nat) : Int)) (by kernel_rfl) (by kernel_rfl) (wr64 (by omega) (by omega) (by omega))) ?_
              refine segEnd [2, 4, 5, 6, 7, 8, 9] (T1 := (mkT 52 [(2, vP 2 0), (4, vP 3 0), (5, vP 4 0), (6, vP 5 0), (7, vP 6 0), (8, vN i), (9, vI 5)])) (H1 := [some ⟨a3s L, 74, false, false⟩, some ⟨[], 74, false, false⟩, rB [vN X, vN Y, vN Z, vS 0 L.length] 40, rB [vI 0, vI 0, vI 0, vI 0, vI 0, vI 0] 57, rB [vN m0, vN m1, vN m2, vN m3, vN m4, vN (m5 + 1)] 57, rB [vI (-1), vI 0, vI 0, vI 1, vI 0, vI 0, vI 0, vI (-1), vI 0, vI 0, vI 1, vI 0, vI 0, vI 0, vI (-1), vI 0, vI 0, vI 1] 118, rB [vN X, vN Y, vN Z, vS 1 (([] : List A3).length)] 40, rB [vI ((L.getD i default).x), vI ((L.getD i default).y), vI (((L.getD i default).z) + 1)] 74]) (by kernel_rfl) ?_
              refine kBlk ?_
              refine kSeq ?_
              refine cReg ?_
              refine segEndH [2, 4, 5, 6, 7, 8, 9] (T1 := (mkT 52 [(2, vP 2 0), (4, vP 3 0), (5, vP 4 0), (6, vP 5 0), (7, vP 6 0), (8, vN i), (9, vI 6)])) (by kernel_rfl) ?_
              exact kLoop (6 - 6) (mkT 52 [(2, vP 2 0), (4, vP 3 0), (5, vP 4 0), (6, vP 5 0), (7, vP 6 0), (8, vN i), (9, vI 6)]) [some ⟨a3s L, 74, false, false⟩, some ⟨[], 74, false, false⟩, rB [vN X, vN Y, vN Z, vS 0 L.length] 40, rB [vI 0, vI 0, vI 0, vI 0, vI 0, vI 0] 57, rB [vN m0, vN m1, vN m2, vN m3, vN m4, vN (m5 + 1)] 57, rB [vI (-1), vI 0, vI 0, vI 1, vI 0, vI 0, vI 0, vI (-1), vI 0, vI 0, vI 1, vI 0, vI 0, vI 0, vI (-1), vI 0, vI 0, vI 1] 118, rB [vN X, vN Y, vN Z, vS 1 (([] : List A3).length)] 40] (by omega) (wkDrop [2, 4, 5, 6, 7, 8, 9] _ rfl rfl ((closedL ⟨clF (flatA3 _ _ _ _), ⟨clX rfl, ⟨clX rfl, ⟨clX rfl, ⟨clX rfl, ⟨clX rfl, ⟨clX rfl, trivial⟩⟩⟩⟩⟩⟩⟩)) (by kernel_rfl) rfl) ⟨6, m0, m1, m2, m3, m4, (m5 + 1), (by omega), (hm0), (hm1), (hm2), (hm3), (hm4), (by first | exact cntF_yes (by omega) hm5 (by assumption) | exact cntF_no (by omega) hm5 (by assumption)), rfl, rfl, rfl⟩
            ·
              have h13k := h13
              (try simp only [Bool.not_eq_true', Bool.not_eq_false', decide_eq_true_eq, decide_eq_false_iff_not, beq_iff_eq, bne_iff_ne, beq_eq_false_iff_ne, bne_eq_false_iff_eq, ne_eq, Decidable.not_not, Bool.and_eq_true, Bool.and_eq_false_imp, Bool.or_eq_true, Bool.or_eq_false_iff, Bool.not_eq_true, Int.not_lt, Int.not_le, ge_iff_le, gt_iff_lt] at h13)
              exfalso; (simp [hasL] at h13)
          ·
            have h12k := h12
            (try simp only [Bool.not_eq_true', Bool.not_eq_false', decide_eq_true_eq, decide_eq_false_iff_not, beq_iff_eq, bne_iff_ne, beq_eq_false_iff_ne, bne_eq_false_iff_eq, ne_eq, Decidable.not_not, Bool.and_eq_true, Bool.and_eq_false_imp, Bool.or_eq_true, Bool.or_eq_false_iff, Bool.not_eq_true, Int.not_lt, Int.not_le, ge_iff_le, gt_iff_lt] at h12)
            refine segEnd [2, 4, 5, 6, 7, 8, 9, 45] (T1 := (mkT 52 [(2, vP 2 0), (4, vP 3 0), (5, vP 4 0), (6, vP 5 0), (7, vP 6 0), (8, vN i), (9, vI 5), (45, .bool false)])) (H1 := [some ⟨a3s L, 74, false, false⟩, some ⟨[], 74, false, false⟩, rB [vN X, vN Y, vN Z, vS 0 L.length] 40, rB [vI 0, vI 0, vI 0, vI 0, vI 0, vI 0] 57, rB [vN m0, vN m1, vN m2, vN m3, vN m4, vN m5] 57, rB [vI (-1), vI 0, vI 0, vI 1, vI 0, vI 0, vI 0, vI (-1), vI 0, vI 0, vI 1, vI 0, vI 0, vI 0, vI (-1), vI 0, vI 0, vI 1] 118, rB [vN X, vN Y, vN Z, vS 1 (([] : List A3).length)] 40, rB [vI ((L.getD i default).x), vI ((L.getD i default).y), vI (((L.getD i default).z) + 1)] 74]) (by kernel_rfl) ?_
            refine kSeq ?_
            refine cFalse (by kernel_rfl) ?_
            refine cSkip ?_
            refine kBlk ?_
            refine kSeq ?_
            refine cReg ?_
            refine segEndH [2, 4, 5, 6, 7, 8, 9] (T1 := (mkT 52 [(2, vP 2 0), (4, vP 3 0), (5, vP 4 0), (6, vP 5 0), (7, vP 6 0), (8, vN i), (9, vI 6)])) (by kernel_rfl) ?_
            exact kLoop (6 - 6) (mkT 52 [(2, vP 2 0), (4, vP 3 0), (5, vP 4 0), (6, vP 5 0), (7, vP 6 0), (8, vN i), (9, vI 6)]) [some ⟨a3s L, 74, false, false⟩, some ⟨[], 74, false, false⟩, rB [vN X, vN Y, vN Z, vS 0 L.length] 40, rB [vI 0, vI 0, vI 0, vI 0, vI 0, vI 0] 57, rB [vN m0, vN m1, vN m2, vN m3, vN m4, vN m5] 57, rB [vI (-1), vI 0, vI 0, vI 1, vI 0, vI 0, vI 0, vI (-1), vI 0, vI 0, vI 1, vI 0, vI 0, vI 0, vI (-1), vI 0, vI 0, vI 1] 118, rB [vN X, vN Y, vN Z, vS 1 (([] : List A3).length)] 40] (by omega) (wkDrop [2, 4, 5, 6, 7, 8, 9] _ rfl rfl ((closedL ⟨clF (flatA3 _ _ _ _), ⟨clX rfl, ⟨clX rfl, ⟨clX rfl, ⟨clX rfl, ⟨clX rfl, ⟨clX rfl, trivial⟩⟩⟩⟩⟩⟩⟩)) (by kernel_rfl) rfl) ⟨6, m0, m1, m2, m3, m4, m5, (by omega), (hm0), (hm1), (hm2), (hm3), (hm4), (by first | exact cntF_yes (by omega) hm5 (by assumption) | exact cntF_no (by omega) hm5 (by assumption)), rfl, rfl, rfl⟩
        ·
          refine cSeq ?_
          refine cSeq ?_
          refine cReg ?_
          refine segEndH [2, 4, 5, 6, 7, 8, 9, 24] (T1 := (mkT 52 [(2, vP 2 0), (4, vP 3 0), (5, vP 4 0), (6, vP 5 0), (7, vP 6 0), (8, vN i), (9, vI 6), (24, .bool false)])) (by kernel_rfl) ?_
          refine kSeq ?_
          refine cFalse (by kernel_rfl) ?_
          refine cExit ?_
          refine kSeqE ?_
          refine kLoopE ?_
          refine kBlkHit ?_
          refine kBlk ?_
          refine kSeq ?_
          refine cReg ?_
          refine segH 1 (T1 := (mkT 52 [(2, vP 2 0), (4, vP 3 0), (5, vP 4 0), (6, vP 5 0), (7, vP 6 0), (8, vN i), (9, vI 6), (21, vN i), (24, .bool false)])) (by kernel_rfl) ?_
          refine rOp (v := vN (i + 1)) (by kernel_rfl) (eAdd (k := .i64) (a := ((i : Nat) : Int)) (b := 1) (c := ((i + 1 : Nat) : Int)) (by kernel_rfl) (by kernel_rfl) (wr64 (by omega) (by omega) (by omega))) ?_
          refine segEndH [2, 4, 5, 6, 7, 8] (T1 := (mkT 52 [(2, vP 2 0), (4, vP 3 0), (5, vP 4 0), (6, vP 5 0), (7, vP 6 0), (8, vN (i + 1))])) (by kernel_rfl) ?_
          exact kLoop (L.length - (i + 1)) (mkT 52 [(2, vP 2 0), (4, vP 3 0), (5, vP 4 0), (6, vP 5 0), (7, vP 6 0), (8, vN (i + 1))]) [some ⟨a3s L, 74, false, false⟩, some ⟨[], 74, false, false⟩, rB [vN X, vN Y, vN Z, vS 0 L.length] 40, rB [vI 0, vI 0, vI 0, vI 0, vI 0, vI 0] 57, rB [vN m0, vN m1, vN m2, vN m3, vN m4, vN m5] 57, rB [vI (-1), vI 0, vI 0, vI 1, vI 0, vI 0, vI 0, vI (-1), vI 0, vI 0, vI 1, vI 0, vI 0, vI 0, vI (-1), vI 0, vI 0, vI 1] 118, rB [vN X, vN Y, vN Z, vS 1 (([] : List A3).length)] 40] (by omega) (wkSame [2, 4, 5, 6, 7, 8] (by kernel_rfl)) ⟨(i + 1), m0, m1, m2, m3, m4, m5, (by omega), (hm0), (hm1), (hm2), (hm3), (hm4), (hm5), rfl, rfl, rfl⟩

set_option maxRecDepth 100000 in
set_option maxHeartbeats 4000000 in
theorem bareFacesB (X : Nat) (Y : Nat) (Z : Nat) (L : List A3) (hs : Sides X Y Z) (hL : HeapL X Y Z L) : Sound Try.prog 92 [.agg #[vN X, vN Y, vN Z, vS 0 L.length]] [some ⟨a3s L, 74, false, false⟩] (.agg #[vN (cntF L 0 L.length), vN (cntF L 1 L.length), vN (cntF L 2 L.length), vN (cntF L 3 L.length), vN (cntF L 4 L.length), vN (cntF L 5 L.length)]) [some ⟨a3s L, 74, false, false⟩] := by
  refine sound_intro (C := cx) Try.func92 rfl (by kernel_rfl) fun hcl => ?_
  have hz := hs.size
  have hx0 := hs.x0
  have hx4 := hs.x4
  have hy0 := hs.y0
  have hy4 := hs.y4
  have hz0 := hs.z0
  have hz4 := hs.z4
  have hlen := hL.len
  have hlt := hL.lt64 hs
  have hsm := hL.small hs
  refine cSeq ?_
  refine cReg ?_
  refine segEnd [1, 2] (T1 := (mkT 31 [(1, vP 1 0), (2, vP 2 0)])) (H1 := [some ⟨a3s L, 74, false, false⟩, rB [vN X, vN Y, vN Z, vS 0 L.length] 40, rB [vI 0, vI 0, vI 0, vI 0, vI 0, vI 0] 57]) (by kernel_rfl) ?_
  refine kSeq ?_
  refine cSeq ?_
  refine cReg ?_
  refine segEnd [1, 2, 3] (T1 := (mkT 31 [(1, vP 1 0), (2, vP 2 0), (3, vP 3 0)])) (H1 := [some ⟨a3s L, 74, false, false⟩, rB [vN X, vN Y, vN Z, vS 0 L.length] 40, rB [vI 0, vI 0, vI 0, vI 0, vI 0, vI 0] 57, rB [vI 0, vI 0, vI 0, vI 0, vI 0, vI 0] 57]) (by kernel_rfl) ?_
  refine kSeq ?_
  refine cSeq ?_
  refine cSeq ?_
  refine cReg ?_
  refine segEndH [1, 2, 3, 9, 10, 11] (T1 := (mkT 31 [(1, vP 1 0), (2, vP 2 0), (3, vP 3 0), (9, vS 0 L.length), (10, vN L.length), (11, vI 0)])) (by kernel_rfl) ?_
  refine kSeq ?_
  refine cBlk ?_
  -- loop
  refine cLoop (fun mm T H => ∃ i : Nat, ∃ n0 : Nat, ∃ n1 : Nat, ∃ n2 : Nat, ∃ n3 : Nat, ∃ n4 : Nat, ∃ n5 : Nat, (i ≤ L.length) ∧ (n0 = cntF L 0 i) ∧ (n1 = cntF L 1 i) ∧ (n2 = cntF L 2 i) ∧ (n3 = cntF L 3 i) ∧ (n4 = cntF L 4 i) ∧ (n5 = cntF L 5 i) ∧ mm = L.length - i ∧ T = (mkT 31 [(1, vP 1 0), (2, vP 2 0), (3, vP 3 0), (9, vS 0 L.length), (10, vN L.length), (11, vN i)]) ∧ H = [some ⟨a3s L, 74, false, false⟩, rB [vN X, vN Y, vN Z, vS 0 L.length] 40, rB [vI 0, vI 0, vI 0, vI 0, vI 0, vI 0] 57, rB [vN n0, vN n1, vN n2, vN n3, vN n4, vN n5] 57]) (L.length - 0) (mkT 31 [(1, vP 1 0), (2, vP 2 0), (3, vP 3 0), (9, vS 0 L.length), (10, vN L.length), (11, vI 0)]) [some ⟨a3s L, 74, false, false⟩, rB [vN X, vN Y, vN Z, vS 0 L.length] 40, rB [vI 0, vI 0, vI 0, vI 0, vI 0, vI 0] 57, rB [vI 0, vI 0, vI 0, vI 0, vI 0, vI 0] 57] (wkSame [1, 2, 3, 9, 10, 11] (by kernel_rfl)) ?_ ?_
  · exact ⟨0, 0, 0, 0, 0, 0, 0, (Nat.zero_le _), (rfl), (rfl), (rfl), (rfl), (rfl), (rfl), rfl, rfl, rfl⟩
  · rintro _ _ _ ⟨i, n0, n1, n2, n3, n4, n5, hi, hn0, hn1, hn2, hn3, hn4, hn5, rfl, rfl, rfl⟩
    refine cSeq ?_
    refine cReg ?_
    refine segEndH [1, 2, 3, 9, 10, 11, 12] (T1 := (mkT 31 [(1, vP 1 0), (2, vP 2 0), (3, vP 3 0), (9, vS 0 L.length), (10, vN L.length), (11, vN i), (12, .bool (decide (((i : Nat) : Int) < ((L.length : Nat) : Int))))])) (by kernel_rfl) ?_
    refine kSeq ?_
    refine cSeq ?_
    cases h1 : (decide (((i : Nat) : Int) < ((L.length : Nat) : Int)) : Bool)
    ·
      have h1k := h1
      (try simp only [Bool.not_eq_true', Bool.not_eq_false', decide_eq_true_eq, decide_eq_false_iff_not, beq_iff_eq, bne_iff_ne, beq_eq_false_iff_ne, bne_eq_false_iff_eq, ne_eq, Decidable.not_not, Bool.and_eq_true, Bool.and_eq_false_imp, Bool.or_eq_true, Bool.or_eq_false_iff, Bool.not_eq_true, Int.not_lt, Int.not_le, ge_iff_le, gt_iff_lt] at h1)
      refine cFalse (by kernel_rfl) ?_
      refine cExit ?_
      refine kSeqE ?_
      refine kLoopE ?_
      refine kBlkHit ?_
      refine kSeq ?_
      refine cSeq ?_
      refine cReg ?_
      refine segEnd [2] (T1 := (mkT 31 [(2, vP 2 0)])) (H1 := [some ⟨a3s L, 74, false, false⟩, rB [vN X, vN Y, vN Z, vS 0 L.length] 40, rB [vN n0, vN n1, vN n2, vN n3, vN n4, vN n5] 57, rB [vN n0, vN n1, vN n2, vN n3, vN n4, vN n5] 57]) (by kernel_rfl) ?_
      refine kSeq ?_
      refine cRet ?_
      -- end
      have he0 : (n0 : Nat) = cntF L 0 L.length := by (have e : i = L.length := by omega); first | (rw [hn0, e]; done) | (rw [hn1, e]; done) | (rw [hn2, e]; done) | (rw [hn3, e]; done) | (rw [hn4, e]; done) | (rw [hn5, e]; done)
      have he1 : (n1 : Nat) = cntF L 1 L.length := by (have e : i = L.length := by omega); first | (rw [hn0, e]; done) | (rw [hn1, e]; done) | (rw [hn2, e]; done) | (rw [hn3, e]; done) | (rw [hn4, e]; done) | (rw [hn5, e]; done)
      have he2 : (n2 : Nat) = cntF L 2 L.length := by (have e : i = L.length := by omega); first | (rw [hn0, e]; done) | (rw [hn1, e]; done) | (rw [hn2, e]; done) | (rw [hn3, e]; done) | (rw [hn4, e]; done) | (rw [hn5, e]; done)
      have he3 : (n3 : Nat) = cntF L 3 L.length := by (have e : i = L.length := by omega); first | (rw [hn0, e]; done) | (rw [hn1, e]; done) | (rw [hn2, e]; done) | (rw [hn3, e]; done) | (rw [hn4, e]; done) | (rw [hn5, e]; done)
      have he4 : (n4 : Nat) = cntF L 4 L.length := by (have e : i = L.length := by omega); first | (rw [hn0, e]; done) | (rw [hn1, e]; done) | (rw [hn2, e]; done) | (rw [hn3, e]; done) | (rw [hn4, e]; done) | (rw [hn5, e]; done)
      have he5 : (n5 : Nat) = cntF L 5 L.length := by (have e : i = L.length := by omega); first | (rw [hn0, e]; done) | (rw [hn1, e]; done) | (rw [hn2, e]; done) | (rw [hn3, e]; done) | (rw [hn4, e]; done) | (rw [hn5, e]; done)
      refine endCast (v1 := .agg #[vN n0, vN n1, vN n2, vN n3, vN n4, vN n5]) (H1 := [some ⟨a3s L, 74, false, false⟩]) (by first | rfl | ((try rw [← he0]); (try rw [← he1]); (try rw [← he2]); (try rw [← he3]); (try rw [← he4]); (try rw [← he5]); done) | (simp only [← he0, ← he1, ← he2, ← he3, ← he4, ← he5]; done)) (by first | rfl | ((try rw [← he0]); (try rw [← he1]); (try rw [← he2]); (try rw [← he3]); (try rw [← he4]); (try rw [← he5]); done) | (simp only [← he0, ← he1, ← he2, ← he3, ← he4, ← he5]; done)) ?_
      exact endQ (Or.inr rfl) (l := [.agg #[vN n0, vN n1, vN n2, vN n3, vN n4, vN n5]]) [rB [vN X, vN Y, vN Z, vS 0 L.length] 40, rB [vN n0, vN n1, vN n2, vN n3, vN n4, vN n5] 57, rB [vN n0, vN n1, vN n2, vN n3, vN n4, vN n5] 57] (by kernel_rfl) (by first | rfl | kernel_rfl) rfl rfl hcl rfl
    ·
      have h1k := h1
      (try simp only [Bool.not_eq_true', Bool.not_eq_false', decide_eq_true_eq, decide_eq_false_iff_not, beq_iff_eq, bne_iff_ne, beq_eq_false_iff_ne, bne_eq_false_iff_eq, ne_eq, Decidable.not_not, Bool.and_eq_true, Bool.and_eq_false_imp, Bool.or_eq_true, Bool.or_eq_false_iff, Bool.not_eq_true, Int.not_lt, Int.not_le, ge_iff_le, gt_iff_lt] at h1)
      have hc0 := hsm.at (i := i) (by omega)
      refine cTrue (by kernel_rfl) ?_
      refine cSkip ?_
      refine kSeq ?_
      refine cSeq ?_
      refine cBlk ?_
      refine cSeq ?_
      refine cReg ?_
      refine rOp (v := vP 0 (i * 3)) (by kernel_rfl) (eIdxS (ad := ⟨0, 0, none⟩) (n := L.length) (m := 0) (k := .i64) (c := ((i : Nat) : Int)) (j := i) (o := i * 3) (by kernel_rfl) (by kernel_rfl) ti31 ti74 (rfl) (by omega) (by exact Nat.zero_add _)) ?_
      refine rOp (v := .agg #[vI ((L.getD i default).x), vI ((L.getD i default).y), vI ((L.getD i default).z)]) (by kernel_rfl) (eLdA3 (ad := ⟨0, i * 3, none⟩) (r := ⟨a3s L, 74, false, false⟩) (L := L) (j := i) (by kernel_rfl) (by kernel_rfl) rfl (by first | rfl | omega) (by omega) ti74) ?_
      refine segEnd [1, 2, 3, 5, 9, 10, 11] (T1 := (mkT 31 [(1, vP 1 0), (2, vP 2 0), (3, vP 3 0), (5, vP 4 0), (9, vS 0 L.length), (10, vN L.length), (11, vN i)])) (H1 := [some ⟨a3s L, 74, false, false⟩, rB [vN X, vN Y, vN Z, vS 0 L.length] 40, rB [vI 0, vI 0, vI 0, vI 0, vI 0, vI 0] 57, rB [vN n0, vN n1, vN n2, vN n3, vN n4, vN n5] 57, rB [vI ((L.getD i default).x), vI ((L.getD i default).y), vI ((L.getD i default).z)] 74]) (by kernel_rfl) ?_
      refine kSeq ?_
      refine cSeq ?_
      refine cReg ?_
      refine segEndH [1, 2, 3, 5, 9, 10, 11, 15] (T1 := (mkT 31 [(1, vP 1 0), (2, vP 2 0), (3, vP 3 0), (5, vP 4 0), (9, vS 0 L.length), (10, vN L.length), (11, vN i), (15, vI 0)])) (by kernel_rfl) ?_
      refine kSeq ?_
      refine cBlk ?_
      -- loop
      refine cLoop (fun mm T H => ∃ f : Nat, ∃ m0 : Nat, ∃ m1 : Nat, ∃ m2 : Nat, ∃ m3 : Nat, ∃ m4 : Nat, ∃ m5 : Nat, (f ≤ 6) ∧ (m0 = cntF L 0 (i + stp 0 f)) ∧ (m1 = cntF L 1 (i + stp 1 f)) ∧ (m2 = cntF L 2 (i + stp 2 f)) ∧ (m3 = cntF L 3 (i + stp 3 f)) ∧ (m4 = cntF L 4 (i + stp 4 f)) ∧ (m5 = cntF L 5 (i + stp 5 f)) ∧ mm = 6 - f ∧ T = (mkT 31 [(1, vP 1 0), (2, vP 2 0), (3, vP 3 0), (5, vP 4 0), (9, vS 0 L.length), (10, vN L.length), (11, vN i), (15, vN f)]) ∧ H = [some ⟨a3s L, 74, false, false⟩, rB [vN X, vN Y, vN Z, vS 0 L.length] 40, rB [vI 0, vI 0, vI 0, vI 0, vI 0, vI 0] 57, rB [vN m0, vN m1, vN m2, vN m3, vN m4, vN m5] 57, rB [vI ((L.getD i default).x), vI ((L.getD i default).y), vI ((L.getD i default).z)] 74]) (6 - 0) (mkT 31 [(1, vP 1 0), (2, vP 2 0), (3, vP 3 0), (5, vP 4 0), (9, vS 0 L.length), (10, vN L.length), (11, vN i), (15, vI 0)]) [some ⟨a3s L, 74, false, false⟩, rB [vN X, vN Y, vN Z, vS 0 L.length] 40, rB [vI 0, vI 0, vI 0, vI 0, vI 0, vI 0] 57, rB [vN n0, vN n1, vN n2, vN n3, vN n4, vN n5] 57, rB [vI ((L.getD i default).x), vI ((L.getD i default).y), vI ((L.getD i default).z)] 74] (wkSame [1, 2, 3, 5, 9, 10, 11, 15] (by kernel_rfl)) ?_ ?_
      · exact ⟨0, n0, n1, n2, n3, n4, n5, (Nat.zero_le _), (hn0), (hn1), (hn2), (hn3), (hn4), (hn5), rfl, rfl, rfl⟩
      · rintro _ _ _ ⟨f, m0, m1, m2, m3, m4, m5, hf, hm0, hm1, hm2, hm3, hm4, hm5, rfl, rfl, rfl⟩
        have hq0 : m0 ≤ L.length := hm0 ▸ cntF_le _ _ _; have hq1 : m1 ≤ L.length := hm1 ▸ cntF_le _ _ _; have hq2 : m2 ≤ L.length := hm2 ▸ cntF_le _ _ _; have hq3 : m3 ≤ L.length := hm3 ▸ cntF_le _ _ _; have hq4 : m4 ≤ L.length := hm4 ▸ cntF_le _ _ _; have hq5 : m5 ≤ L.length := hm5 ▸ cntF_le _ _ _
        have hcase : f = 0 ∨ f = 1 ∨ f = 2 ∨ f = 3 ∨ f = 4 ∨ f = 5 ∨ f = 6 := by omega
        rcases hcase with rfl | rfl | rfl | rfl | rfl | rfl | rfl
        ·
          refine cSeq ?_
          refine cReg ?_
          refine segEndH [1, 2, 3, 5, 9, 10, 11, 15, 16] (T1 := (mkT 31 [(1, vP 1 0), (2, vP 2 0), (3, vP 3 0), (5, vP 4 0), (9, vS 0 L.length), (10, vN L.length), (11, vN i), (15, vI 0), (16, .bool true)])) (by kernel_rfl) ?_
          refine kSeq ?_
          refine cSeq ?_
          refine cTrue (by kernel_rfl) ?_
          refine cSkip ?_
          refine kSeq ?_
          refine cSeq ?_
          refine cBlk ?_
          refine cSeq ?_
          refine cReg ?_
          refine segEndH [1, 2, 3, 5, 6, 9, 10, 11, 15] (T1 := (mkT 31 [(1, vP 1 0), (2, vP 2 0), (3, vP 3 0), (5, vP 4 0), (6, vI 0), (9, vS 0 L.length), (10, vN L.length), (11, vN i), (15, vI 0)])) (by kernel_rfl) ?_
          refine kSeq ?_
          refine cSeq ?_
          refine cRegW (N := 5) [⟨[], [], [1]⟩, ⟨[], [], [4]⟩, ⟨[], [], []⟩, ⟨[], [], []⟩, ⟨[], [], [0]⟩] 0 [] (by rfl) (by rfl) (by kernel_rfl) (by kernel_rfl) (by kernel_rfl) ⟨nmsF (flatA3 _ _ _ _), ⟨nmsX (by kernel_rfl), ⟨nmsX (by kernel_rfl), ⟨nmsX (by kernel_rfl), ⟨nmsX (by kernel_rfl), trivial⟩⟩⟩⟩⟩ ?_
          refine segWH 3 (T1 := (mkT 31 [(1, vP 1 0), (2, vP 2 0), (3, vP 3 0), (5, vP 4 0), (6, vI 0), (9, vS 0 L.length), (10, vN L.length), (11, vN i), (15, vI 0), (18, .agg #[vN X, vN Y, vN Z, vS 0 L.length]), (19, .agg #[vI ((L.getD i default).x), vI ((L.getD i default).y), vI ((L.getD i default).z)]), (20, vI 0)])) (by kernel_rfl) ?_
          refine rW (m := ⟨[], [], []⟩) (v := .agg #[vI (((L.getD i default).x) + (-1)), vI ((L.getD i default).y), vI ((L.getD i default).z)]) rfl (by kernel_rfl) (stQ (args := [.agg #[vI ((L.getD i default).x), vI ((L.getD i default).y), vI ((L.getD i default).z)], vI 0]) rfl (by kernel_rfl) (Any.lay0 [] (beyond0 ((L.getD i default).x) ((L.getD i default).y) ((L.getD i default).z) (by first | assumption | omega | rfl | decide | exact HeapL.list _ _ _ _ | exact HeapL.nil _ _ _ | exact HeapL.all _ _ _ | (apply HeapL.lt64 <;> assumption) | (repeat' (first | assumption | apply or_lt64 | apply and_lt64 | apply andn_lt64 | apply pow_lt64 | (apply HeapL.lt64 <;> assumption))))) trivial rfl trivial rfl (by first | rfl | simp [mpV, mpA, mpS, mpP, renId, shift]) (by first | rfl | simp [mpV, mpA, mpS, mpP, renId, shift])) rfl (by kernel_rfl) (by kernel_rfl)) (by kernel_rfl) nr0 ?_
          refine rW (m := ⟨[], [], [0]⟩) (v := .bool (!hasL L (((L.getD i default).x) + (-1)) ((L.getD i default).y) ((L.getD i default).z))) rfl (by kernel_rfl) (stQ (args := [.agg #[vN X, vN Y, vN Z, vS 0 L.length], .agg #[vI (((L.getD i default).x) + (-1)), vI ((L.getD i default).y), vI ((L.getD i default).z)]]) rfl (by kernel_rfl) (Any.lay0 [0] (isBareB X Y Z L (((L.getD i default).x) + (-1)) ((L.getD i default).y) ((L.getD i default).z) (by first | assumption | omega | rfl | decide | exact HeapL.list _ _ _ _ | exact HeapL.nil _ _ _ | exact HeapL.all _ _ _ | (apply HeapL.lt64 <;> assumption) | (repeat' (first | assumption | apply or_lt64 | apply and_lt64 | apply andn_lt64 | apply pow_lt64 | (apply HeapL.lt64 <;> assumption)))) (by first | assumption | omega | rfl | decide | exact HeapL.list _ _ _ _ | exact HeapL.nil _ _ _ | exact HeapL.all _ _ _ | (apply HeapL.lt64 <;> assumption) | (repeat' (first | assumption | apply or_lt64 | apply and_lt64 | apply andn_lt64 | apply pow_lt64 | (apply HeapL.lt64 <;> assumption))))) ⟨rdF false (flatA3 _ _ _ _) rfl rfl, trivial⟩ rfl ⟨clF (flatA3 _ _ _ _), trivial⟩ rfl (by first | rfl | simp [mpV, mpA, mpS, mpP, renId, shift]) rfl) rfl (by kernel_rfl) (by kernel_rfl)) (by kernel_rfl) nr0 ?_
          refine segEndWH [1, 2, 3, 5, 6, 9, 10, 11, 15, 22] (T1 := (mkT 31 [(1, vP 1 0), (2, vP 2 0), (3, vP 3 0), (5, vP 4 0), (6, vI 0), (9, vS 0 L.length), (10, vN L.length), (11, vN i), (15, vI 0), (22, .bool (!hasL L (((L.getD i default).x) + (-1)) ((L.getD i default).y) ((L.getD i default).z)))])) (by kernel_rfl) ?_
          refine kSeq ?_
          cases h2 : ((!hasL L (((L.getD i default).x) + (-1)) ((L.getD i default).y) ((L.getD i default).z)) : Bool)
          ·
            have h2k := h2
            (try simp only [Bool.not_eq_true', Bool.not_eq_false', decide_eq_true_eq, decide_eq_false_iff_not, beq_iff_eq, bne_iff_ne, beq_eq_false_iff_ne, bne_eq_false_iff_eq, ne_eq, Decidable.not_not, Bool.and_eq_true, Bool.and_eq_false_imp, Bool.or_eq_true, Bool.or_eq_false_iff, Bool.not_eq_true, Int.not_lt, Int.not_le, ge_iff_le, gt_iff_lt] at h2)
            refine cFalse (by kernel_rfl) ?_
            refine cSkip ?_
            refine kBlk ?_
            refine kSeq ?_
            refine cReg ?_
            refine segEndH [1, 2, 3, 5, 9, 10, 11, 15] (T1 := (mkT 31 [(1, vP 1 0), (2, vP 2 0), (3, vP 3 0), (5, vP 4 0), (9, vS 0 L.length), (10, vN L.length), (11, vN i), (15, vI 1)])) (by kernel_rfl) ?_
            exact kLoop (6 - 1) (mkT 31 [(1, vP 1 0), (2, vP 2 0), (3, vP 3 0), (5, vP 4 0), (9, vS 0 L.length), (10, vN L.length), (11, vN i), (15, vI 1)]) [some ⟨a3s L, 74, false, false⟩, rB [vN X, vN Y, vN Z, vS 0 L.length] 40, rB [vI 0, vI 0, vI 0, vI 0, vI 0, vI 0] 57, rB [vN m0, vN m1, vN m2, vN m3, vN m4, vN m5] 57, rB [vI ((L.getD i default).x), vI ((L.getD i default).y), vI ((L.getD i default).z)] 74] (by omega) (wkSame [1, 2, 3, 5, 9, 10, 11, 15] (by kernel_rfl)) ⟨1, m0, m1, m2, m3, m4, m5, (by omega), (by first | exact cntF_yes (by omega) hm0 (by assumption) | exact cntF_no (by omega) hm0 (by assumption)), (hm1), (hm2), (hm3), (hm4), (hm5), rfl, rfl, rfl⟩
          ·
            have h2k := h2
            (try simp only [Bool.not_eq_true', Bool.not_eq_false', decide_eq_true_eq, decide_eq_false_iff_not, beq_iff_eq, bne_iff_ne, beq_eq_false_iff_ne, bne_eq_false_iff_eq, ne_eq, Decidable.not_not, Bool.and_eq_true, Bool.and_eq_false_imp, Bool.or_eq_true, Bool.or_eq_false_iff, Bool.not_eq_true, Int.not_lt, Int.not_le, ge_iff_le, gt_iff_lt] at h2)
            refine cTrue (by kernel_rfl) ?_
            refine cReg ?_
            refine segH 3 (T1 := (mkT 31 [(1, vP 1 0), (2, vP 2 0), (3, vP 3 0), (5, vP 4 0), (6, vI 0), (9, vS 0 L.length), (10, vN L.length), (11, vN i), (15, vI 0), (22, .bool true), (23, vI 0), (24, vP 3 0), (25, vN m0)])) (by kernel_rfl) ?_
            refine rOp (v := vN (m0 + 1)) (by kernel_rfl) (eAdd (k := .i64) (a := ((m0 : Nat) : Int)) (b := 1) (c := ((m0 + 1 : Nat) : Int)) (by kernel_rfl) (by kernel_rfl) (wr64 (by omega) (by omega) (by omega))) ?_
            refine segEnd [1, 2, 3, 5, 9, 10, 11, 15] (T1 := (mkT 31 [(1, vP 1 0), (2, vP 2 0), (3, vP 3 0), (5, vP 4 0), (9, vS 0 L.length), (10, vN L.length), (11, vN i), (15, vI 0)])) (H1 := [some ⟨a3s L, 74, false, false⟩, rB [vN X, vN Y, vN Z, vS 0 L.length] 40, rB [vI 0, vI 0, vI 0, vI 0, vI 0, vI 0] 57, rB [vN (m0 + 1), vN m1, vN m2, vN m3, vN m4, vN m5] 57, rB [vI ((L.getD i default).x), vI ((L.getD i default).y), vI ((L.getD i default).z)] 74]) (by kernel_rfl) ?_
            refine kBlk ?_
            refine kSeq ?_
            refine cReg ?_
            refine segEndH [1, 2, 3, 5, 9, 10, 11, 15] (T1 := (mkT 31 [(1, vP 1 0), (2, vP 2 0), (3, vP 3 0), (5, vP 4 0), (9, vS 0 L.length), (10, vN L.length), (11, vN i), (15, vI 1)])) (by kernel_rfl) ?_
            exact kLoop (6 - 1) (mkT 31 [(1, vP 1 0), (2, vP 2 0), (3, vP 3 0), (5, vP 4 0), (9, vS 0 L.length), (10, vN L.length), (11, vN i), (15, vI 1)]) [some ⟨a3s L, 74, false, false⟩, rB [vN X, vN Y, vN Z, vS 0 L.length] 40, rB [vI 0, vI 0, vI 0, vI 0, vI 0, vI 0] 57, rB [vN (m0 + 1), vN m1, vN m2, vN m3, vN m4, vN m5] 57, rB [vI ((L.getD i default).x), vI ((L.getD i default).y), vI ((L.getD i default).z)] 74] (by omega) (wkSame [1, 2, 3, 5, 9, 10, 11, 15] (by kernel_rfl)) ⟨1, (m0 + 1), m1, m2, m3, m4, m5, (by omega), (by first | exact cntF_yes (by omega) hm0 (by assumption) | exact cntF_no (by omega) hm0 (by assumption)), (hm1), (hm2), (hm3), (hm4), (hm5), rfl, rfl, rfl⟩
        ·
          refine cSeq ?_
          refine cReg ?_
          refine segEndH [1, 2, 3, 5, 9, 10, 11, 15, 16] (T1 := (mkT 31 [(1, vP 1 0), (2, vP 2 0), (3, vP 3 0), (5, vP 4 0), (9, vS 0 L.length), (10, vN L.length), (11, vN i), (15, vI 1), (16, .bool true)])) (by kernel_rfl) ?_
          refine kSeq ?_
          refine cSeq ?_
          refine cTrue (by kernel_rfl) ?_
          refine cSkip ?_
          refine kSeq ?_
          refine cSeq ?_
          refine cBlk ?_
          refine cSeq ?_
          refine cReg ?_
          refine segEndH [1, 2, 3, 5, 6, 9, 10, 11, 15] (T1 := (mkT 31 [(1, vP 1 0), (2, vP 2 0), (3, vP 3 0), (5, vP 4 0), (6, vI 1), (9, vS 0 L.length), (10, vN L.length), (11, vN i), (15, vI 1)])) (by kernel_rfl) ?_
          refine kSeq ?_
          refine cSeq ?_
          refine cRegW (N := 5) [⟨[], [], [1]⟩, ⟨[], [], [4]⟩, ⟨[], [], []⟩, ⟨[], [], []⟩, ⟨[], [], [0]⟩] 0 [] (by rfl) (by rfl) (by kernel_rfl) (by kernel_rfl) (by kernel_rfl) ⟨nmsF (flatA3 _ _ _ _), ⟨nmsX (by kernel_rfl), ⟨nmsX (by kernel_rfl), ⟨nmsX (by kernel_rfl), ⟨nmsX (by kernel_rfl), trivial⟩⟩⟩⟩⟩ ?_
          refine segWH 3 (T1 := (mkT 31 [(1, vP 1 0), (2, vP 2 0), (3, vP 3 0), (5, vP 4 0), (6, vI 1), (9, vS 0 L.length), (10, vN L.length), (11, vN i), (15, vI 1), (18, .agg #[vN X, vN Y, vN Z, vS 0 L.length]), (19, .agg #[vI ((L.getD i default).x), vI ((L.getD i default).y), vI ((L.getD i default).z)]), (20, vI 1)])) (by kernel_rfl) ?_
          refine rW (m := ⟨[], [], []⟩) (v := .agg #[vI (((L.getD i default).x) + 1), vI ((L.getD i default).y), vI ((L.getD i default).z)]) rfl (by kernel_rfl) (stQ (args := [.agg #[vI ((L.getD i default).x), vI ((L.getD i default).y), vI ((L.getD i default).z)], vI 1]) rfl (by kernel_rfl) (Any.lay0 [] (beyond1 ((L.getD i default).x) ((L.getD i default).y) ((L.getD i default).z) (by first | assumption | omega | rfl | decide | exact HeapL.list _ _ _ _ | exact HeapL.nil _ _ _ | exact HeapL.all _ _ _ | (apply HeapL.lt64 <;> assumption) | (repeat' (first | assumption | apply or_lt64 | apply and_lt64 | apply andn_lt64 | apply pow_lt64 | (apply HeapL.lt64 <;> assumption))))) trivial rfl trivial rfl (by first | rfl | simp [mpV, mpA, mpS, mpP, renId, shift]) (by first | rfl | simp [mpV, mpA, mpS, mpP, renId, shift])) rfl (by kernel_rfl) (by kernel_rfl)) (by kernel_rfl) nr0 ?_
          refine rW (m := ⟨[], [], [0]⟩) (v := .bool (!hasL L (((L.getD i default).x) + 1) ((L.getD i default).y) ((L.getD i default).z))) rfl (by kernel_rfl) (stQ (args := [.agg #[vN X, vN Y, vN Z, vS 0 L.length], .agg #[vI (((L.getD i default).x) + 1), vI ((L.getD i default).y), vI ((L.getD i default).z)]]) rfl (by kernel_rfl) (Any.lay0 [0] (isBareB X Y Z L (((L.getD i default).x) + 1) ((L.getD i default).y) ((L.getD i default).z) (by first | assumption | omega | rfl | decide | exact HeapL.list _ _ _ _ | exact HeapL.nil _ _ _ | exact HeapL.all _ _ _ | (apply HeapL.lt64 <;> assumption) | (repeat' (first | assumption | apply or_lt64 | apply and_lt64 | apply andn_lt64 | apply pow_lt64 | (apply HeapL.lt64 <;> assumption)))) (by first | assumption | omega | rfl | decide | exact HeapL.list _ _ _ _ | exact HeapL.nil _ _ _ | exact HeapL.all _ _ _ | (apply HeapL.lt64 <;> assumption) | (repeat' (first | assumption | apply or_lt64 | apply and_lt64 | apply andn_lt64 | apply pow_lt64 | (apply HeapL.lt64 <;> assumption))))) ⟨rdF false (flatA3 _ _ _ _) rfl rfl, trivial⟩ rfl ⟨clF (flatA3 _ _ _ _), trivial⟩ rfl (by first | rfl | simp [mpV, mpA, mpS, mpP, renId, shift]) rfl) rfl (by kernel_rfl) (by kernel_rfl)) (by kernel_rfl) nr0 ?_
          refine segEndWH [1, 2, 3, 5, 6, 9, 10, 11, 15, 22] (T1 := (mkT 31 [(1, vP 1 0), (2, vP 2 0), (3, vP 3 0), (5, vP 4 0), (6, vI 1), (9, vS 0 L.length), (10, vN L.length), (11, vN i), (15, vI 1), (22, .bool (!hasL L (((L.getD i default).x) + 1) ((L.getD i default).y) ((L.getD i default).z)))])) (by kernel_rfl) ?_
          refine kSeq ?_
          cases h3 : ((!hasL L (((L.getD i default).x) + 1) ((L.getD i default).y) ((L.getD i default).z)) : Bool)
          ·
            have h3k := h3
            (try simp only [Bool.not_eq_true', Bool.not_eq_false', decide_eq_true_eq, decide_eq_false_iff_not, beq_iff_eq, bne_iff_ne, beq_eq_false_iff_ne, bne_eq_false_iff_eq, ne_eq, Decidable.not_not, Bool.and_eq_true, Bool.and_eq_false_imp, Bool.or_eq_true, Bool.or_eq_false_iff, Bool.not_eq_true, Int.not_lt, Int.not_le, ge_iff_le, gt_iff_lt] at h3)
            refine cFalse (by kernel_rfl) ?_
            refine cSkip ?_
            refine kBlk ?_
            refine kSeq ?_
            refine cReg ?_
            refine segEndH [1, 2, 3, 5, 9, 10, 11, 15] (T1 := (mkT 31 [(1, vP 1 0), (2, vP 2 0), (3, vP 3 0), (5, vP 4 0), (9, vS 0 L.length), (10, vN L.length), (11, vN i), (15, vI 2)])) (by kernel_rfl) ?_
            exact kLoop (6 - 2) (mkT 31 [(1, vP 1 0), (2, vP 2 0), (3, vP 3 0), (5, vP 4 0), (9, vS 0 L.length), (10, vN L.length), (11, vN i), (15, vI 2)]) [some ⟨a3s L, 74, false, false⟩, rB [vN X, vN Y, vN Z, vS 0 L.length] 40, rB [vI 0, vI 0, vI 0, vI 0, vI 0, vI 0] 57, rB [vN m0, vN m1, vN m2, vN m3, vN m4, vN m5] 57, rB [vI ((L.getD i default).x), vI ((L.getD i default).y), vI ((L.getD i default).z)] 74] (by omega) (wkSame [1, 2, 3, 5, 9, 10, 11, 15] (by kernel_rfl)) ⟨2, m0, m1, m2, m3, m4, m5, (by omega), (hm0), (by first | exact cntF_yes (by omega) hm1 (by assumption) | exact cntF_no (by omega) hm1 (by assumption)), (hm2), (hm3), (hm4), (hm5), rfl, rfl, rfl⟩
          ·
            have h3k := h3
            (try simp only [Bool.not_eq_true', Bool.not_eq_false', decide_eq_true_eq, decide_eq_false_iff_not, beq_iff_eq, bne_iff_ne, beq_eq_false_iff_ne, bne_eq_false_iff_eq, ne_eq, Decidable.not_not, Bool.and_eq_true, Bool.and_eq_false_imp, Bool.or_eq_true, Bool.or_eq_false_iff, Bool.not_eq_true, Int.not_lt, Int.not_le, ge_iff_le, gt_iff_lt] at h3)
            refine cTrue (by kernel_rfl) ?_
            refine cReg ?_
            refine segH 3 (T1 := (mkT 31 [(1, vP 1 0), (2, vP 2 0), (3, vP 3 0), (5, vP 4 0), (6, vI 1), (9, vS 0 L.length), (10, vN L.length), (11, vN i), (15, vI 1), (22, .bool true), (23, vI 1), (24, vP 3 1), (25, vN m1)])) (by kernel_rfl) ?_
            refine rOp (v := vN (m1 + 1)) (by kernel_rfl) (eAdd (k := .i64) (a := ((m1 : Nat) : Int)) (b := 1) (c := ((m1 + 1 : Nat) : Int)) (by kernel_rfl) (by kernel_rfl) (wr64 (by omega) (by omega) (by omega))) ?_
            refine segEnd [1, 2, 3, 5, 9, 10, 11, 15] (T1 := (mkT 31 [(1, vP 1 0), (2, vP 2 0), (3, vP 3 0), (5, vP 4 0), (9, vS 0 L.length), (10, vN L.length), (11, vN i), (15, vI 1)])) (H1 := [some ⟨a3s L, 74, false, false⟩, rB [vN X, vN Y, vN Z, vS 0 L.length] 40, rB [vI 0, vI 0, vI 0, vI 0, vI 0, vI 0] 57, rB [vN m0, vN (m1 + 1), vN m2, vN m3, vN m4, vN m5] 57, rB [vI ((L.getD i default).x), vI ((L.getD i default).y), vI ((L.getD i default).z)] 74]) (by kernel_rfl) ?_
            refine kBlk ?_
            refine kSeq ?_
            refine cReg ?_
            refine segEndH [1, 2, 3, 5, 9, 10, 11, 15] (T1 := (mkT 31 [(1, vP 1 0), (2, vP 2 0), (3, vP 3 0), (5, vP 4 0), (9, vS 0 L.length), (10, vN L.length), (11, vN i), (15, vI 2)])) (by kernel_rfl) ?_
            exact kLoop (6 - 2) (mkT 31 [(1, vP 1 0), (2, vP 2 0), (3, vP 3 0), (5, vP 4 0), (9, vS 0 L.length), (10, vN L.length), (11, vN i), (15, vI 2)]) [some ⟨a3s L, 74, false, false⟩, rB [vN X, vN Y, vN Z, vS 0 L.length] 40, rB [vI 0, vI 0, vI 0, vI 0, vI 0, vI 0] 57, rB [vN m0, vN (m1 + 1), vN m2, vN m3, vN m4, vN m5] 57, rB [vI ((L.getD i default).x), vI ((L.getD i default).y), vI ((L.getD i default).z)] 74] (by omega) (wkSame [1, 2, 3, 5, 9, 10, 11, 15] (by kernel_rfl)) ⟨2, m0, (m1 + 1), m2, m3, m4, m5, (by omega), (hm0), (by first | exact cntF_yes (by omega) hm1 (by assumption) | exact cntF_no (by omega) hm1 (by assumption)), (hm2), (hm3), (hm4), (hm5), rfl, rfl, rfl⟩
        ·
          refine cSeq ?_
          refine cReg ?_
          refine segEndH [1, 2, 3, 5, 9, 10, 11, 15, 16] (T1 := (mkT 31 [(1, vP 1 0), (2, vP 2 0), (3, vP 3 0), (5, vP 4 0), (9, vS 0 L.length), (10, vN L.length), (11, vN i), (15, vI 2), (16, .bool true)])) (by kernel_rfl) ?_
          refine kSeq ?_
          refine cSeq ?_
          refine cTrue (by kernel_rfl) ?_
          refine cSkip ?_
          refine kSeq ?_
          refine cSeq ?_
          refine cBlk ?_
          refine cSeq ?_
          refine cReg ?_
          refine segEndH [1, 2, 3, 5, 6, 9, 10, 11, 15] (T1 := (mkT 31 [(1, vP 1 0), (2, vP 2 0), (3, vP 3 0), (5, vP 4 0), (6, vI 2), (9, vS 0 L.length), (10, vN L.length), (11, vN i), (15, vI 2)])) (by kernel_rfl) ?_
          refine kSeq ?_
          refine cSeq ?_
          refine cRegW (N := 5) [⟨[], [], [1]⟩, ⟨[], [], [4]⟩, ⟨[], [], []⟩, ⟨[], [], []⟩, ⟨[], [], [0]⟩] 0 [] (by rfl) (by rfl) (by kernel_rfl) (by kernel_rfl) (by kernel_rfl) ⟨nmsF (flatA3 _ _ _ _), ⟨nmsX (by kernel_rfl), ⟨nmsX (by kernel_rfl), ⟨nmsX (by kernel_rfl), ⟨nmsX (by kernel_rfl), trivial⟩⟩⟩⟩⟩ ?_
          refine segWH 3 (T1 := (mkT 31 [(1, vP 1 0), (2, vP 2 0), (3, vP 3 0), (5, vP 4 0), (6, vI 2), (9, vS 0 L.length), (10, vN L.length), (11, vN i), (15, vI 2), (18, .agg #[vN X, vN Y, vN Z, vS 0 L.length]), (19, .agg #[vI ((L.getD i default).x), vI ((L.getD i default).y), vI ((L.getD i default).z)]), (20, vI 2)])) (by kernel_rfl) ?_
          refine rW (m := ⟨[], [], []⟩) (v := .agg #[vI ((L.getD i default).x), vI (((L.getD i default).y) + (-1)), vI ((L.getD i default).z)]) rfl (by kernel_rfl) (stQ (args := [.agg #[vI ((L.getD i default).x), vI ((L.getD i default).y), vI ((L.getD i default).z)], vI 2]) rfl (by kernel_rfl) (Any.lay0 [] (beyond2 ((L.getD i default).x) ((L.getD i default).y) ((L.getD i default).z) (by first | assumption | omega | rfl | decide | exact HeapL.list _ _ _ _ | exact HeapL.nil _ _ _ | exact HeapL.all _ _ _ | (apply HeapL.lt64 <;> assumption) | (repeat' (first | assumption | apply or_lt64 | apply and_lt64 | apply andn_lt64 | apply pow_lt64 | (apply HeapL.lt64 <;> assumption))))) trivial rfl trivial rfl (by first | rfl | simp [mpV, mpA, mpS, mpP, renId, shift]) (by first | rfl | simp [mpV, mpA, mpS, mpP, renId, shift])) rfl (by kernel_rfl) (by kernel_rfl)) (by kernel_rfl) nr0 ?_
          refine rW (m := ⟨[], [], [0]⟩) (v := .bool (!hasL L ((L.getD i default).x) (((L.getD i default).y) + (-1)) ((L.getD i default).z))) rfl (by kernel_rfl) (stQ (args := [.agg #[vN X, vN Y, vN Z, vS 0 L.length], .agg #[vI ((L.getD i default).x), vI (((L.getD i default).y) + (-1)), vI ((L.getD i default).z)]]) rfl (by kernel_rfl) (Any.lay0 [0] (isBareB X Y Z L ((L.getD i default).x) (((L.getD i default).y) + (-1)) ((L.getD i default).z) (by first | assumption | omega | rfl | decide | exact HeapL.list _ _ _ _ | exact HeapL.nil _ _ _ | exact HeapL.all _ _ _ | (apply HeapL.lt64 <;> assumption) | (repeat' (first | assumption | apply or_lt64 | apply and_lt64 | apply andn_lt64 | apply pow_lt64 | (apply HeapL.lt64 <;> assumption)))) (by first | assumption | omega | rfl | decide | exact HeapL.list _ _ _ _ | exact HeapL.nil _ _ _ | exact HeapL.all _ _ _ | (apply HeapL.lt64 <;> assumption) | (repeat' (first | assumption | apply or_lt64 | apply and_lt64 | apply andn_lt64 | apply pow_lt64 | (apply HeapL.lt64 <;> assumption))))) ⟨rdF false (flatA3 _ _ _ _) rfl rfl, trivial⟩ rfl ⟨clF (flatA3 _ _ _ _), trivial⟩ rfl (by first | rfl | simp [mpV, mpA, mpS, mpP, renId, shift]) rfl) rfl (by kernel_rfl) (by kernel_rfl)) (by kernel_rfl) nr0 ?_
          refine segEndWH [1, 2, 3, 5, 6, 9, 10, 11, 15, 22] (T1 := (mkT 31 [(1, vP 1 0), (2, vP 2 0), (3, vP 3 0), (5, vP 4 0), (6, vI 2), (9, vS 0 L.length), (10, vN L.length), (11, vN i), (15, vI 2), (22, .bool (!hasL L ((L.getD i default).x) (((L.getD i default).y) + (-1)) ((L.getD i default).z)))])) (by kernel_rfl) ?_
          refine kSeq ?_
          cases h4 : ((!hasL L ((L.getD i default).x) (((L.getD i default).y) + (-1)) ((L.getD i default).z)) : Bool)
          ·
            have h4k := h4
            (try simp only [Bool.not_eq_true', Bool.not_eq_false', decide_eq_true_eq, decide_eq_false_iff_not, beq_iff_eq, bne_iff_ne, beq_eq_false_iff_ne, bne_eq_false_iff_eq, ne_eq, Decidable.not_not, Bool.and_eq_true, Bool.and_eq_false_imp, Bool.or_eq_true, Bool.or_eq_false_iff, Bool.not_eq_true, Int.not_lt, Int.not_le, ge_iff_le, gt_iff_lt] at h4)
            refine cFalse (by kernel_rfl) ?_
            refine cSkip ?_
            refine kBlk ?_
            refine kSeq ?_
            refine cReg ?_
            refine segEndH [1, 2, 3, 5, 9, 10, 11, 15] (T1 := (mkT 31 [(1, vP 1 0), (2, vP 2 0), (3, vP 3 0), (5, vP 4 0), (9, vS 0 L.length), (10, vN L.length), (11, vN i), (15, vI 3)])) (by kernel_rfl) ?_
            exact kLoop (6 - 3) (mkT 31 [(1, vP 1 0), (2, vP 2 0), (3, vP 3 0), (5, vP 4 0), (9, vS 0 L.length), (10, vN L.length), (11, vN i), (15, vI 3)]) [some ⟨a3s L, 74, false, false⟩, rB [vN X, vN Y, vN Z, vS 0 L.length] 40, rB [vI 0, vI 0, vI 0, vI 0, vI 0, vI 0] 57, rB [vN m0, vN m1, vN m2, vN m3, vN m4, vN m5] 57, rB [vI ((L.getD i default).x), vI ((L.getD i default).y), vI ((L.getD i default).z)] 74] (by omega) (wkSame [1, 2, 3, 5, 9, 10, 11, 15] (by kernel_rfl)) ⟨3, m0, m1, m2, m3, m4, m5, (by omega), (hm0), (hm1), (by first | exact cntF_yes (by omega) hm2 (by assumption) | exact cntF_no (by omega) hm2 (by assumption)), (hm3), (hm4), (hm5), rfl, rfl, rfl⟩
          ·
            have h4k := h4
            (try simp only [Bool.not_eq_true', Bool.not_eq_false', decide_eq_true_eq, decide_eq_false_iff_not, beq_iff_eq, bne_iff_ne, beq_eq_false_iff_ne, bne_eq_false_iff_eq, ne_eq, Decidable.not_not, Bool.and_eq_true, Bool.and_eq_false_imp, Bool.or_eq_true, Bool.or_eq_false_iff, Bool.not_eq_true, Int.not_lt, Int.not_le, ge_iff_le, gt_iff_lt] at h4)
            refine cTrue (by kernel_rfl) ?_
            refine cReg ?_
            refine segH 3 (T1 := (mkT 31 [(1, vP 1 0), (2, vP 2 0), (3, vP 3 0), (5, vP 4 0), (6, vI 2), (9, vS 0 L.length), (10, vN L.length), (11, vN i), (15, vI 2), (22, .bool true), (23, vI 2), (24, vP 3 2), (25, vN m2)])) (by kernel_rfl) ?_
            refine rOp (v := vN (m2 + 1)) (by kernel_rfl) (eAdd (k := .i64) (a := ((m2 : Nat) : Int)) (b := 1) (c := ((m2 + 1 : Nat) : Int)) (by kernel_rfl) (by kernel_rfl) (wr64 (by omega) (by omega) (by omega))) ?_
            refine segEnd [1, 2, 3, 5, 9, 10, 11, 15] (T1 := (mkT 31 [(1, vP 1 0), (2, vP 2 0), (3, vP 3 0), (5, vP 4 0), (9, vS 0 L.length), (10, vN L.length), (11, vN i), (15, vI 2)])) (H1 := [some ⟨a3s L, 74, false, false⟩, rB [vN X, vN Y, vN Z, vS 0 L.length] 40, rB [vI 0, vI 0, vI 0, vI 0, vI 0, vI 0] 57, rB [vN m0, vN m1, vN (m2 + 1), vN m3, vN m4, vN m5] 57, rB [vI ((L.getD i default).x), vI ((L.getD i default).y), vI ((L.getD i default).z)] 74]) (by kernel_rfl) ?_
            refine kBlk ?_
            refine kSeq ?_
            refine cReg ?_
            refine segEndH [1, 2, 3, 5, 9, 10, 11, 15] (T1 := (mkT 31 [(1, vP 1 0), (2, vP 2 0), (3, vP 3 0), (5, vP 4 0), (9, vS 0 L.length), (10, vN L.length), (11, vN i), (15, vI 3)])) (by kernel_rfl) ?_
            exact kLoop (6 - 3) (mkT 31 [(1, vP 1 0), (2, vP 2 0), (3, vP 3 0), (5, vP 4 0), (9, vS 0 L.length), (10, vN L.length), (11, vN i), (15, vI 3)]) [some ⟨a3s L, 74, false, false⟩, rB [vN X, vN Y, vN Z, vS 0 L.length] 40, rB [vI 0, vI 0, vI 0, vI 0, vI 0, vI 0] 57, rB [vN m0, vN m1, vN (m2 + 1), vN m3, vN m4, vN m5] 57, rB [vI ((L.getD i default).x), vI ((L.getD i default).y), vI ((L.getD i default).z)] 74] (by omega) (wkSame [1, 2, 3, 5, 9, 10, 11, 15] (by kernel_rfl)) ⟨3, m0, m1, (m2 + 1), m3, m4, m5, (by omega), (hm0), (hm1), (by first | exact cntF_yes (by omega) hm2 (by assumption) | exact cntF_no (by omega) hm2 (by assumption)), (hm3), (hm4), (hm5), rfl, rfl, rfl⟩
        ·
          refine cSeq ?_
          refine cReg ?_
          refine segEndH [1, 2, 3, 5, 9, 10, 11, 15, 16] (T1 := (mkT 31 [(1, vP 1 0), (2, vP 2 0), (3, vP 3 0), (5, vP 4 0), (9, vS 0 L.length), (10, vN L.length), (11, vN i), (15, vI 3), (16, .bool true)])) (by kernel_rfl) ?_
          refine kSeq ?_
          refine cSeq ?_
          refine cTrue (by kernel_rfl) ?_
          refine cSkip ?_
          refine kSeq ?_
          refine cSeq ?_
          refine cBlk ?_
          refine cSeq ?_
          refine cReg ?_
          refine segEndH [1, 2, 3, 5, 6, 9, 10, 11, 15] (T1 := (mkT 31 [(1, vP 1 0), (2, vP 2 0), (3, vP 3 0), (5, vP 4 0), (6, vI 3), (9, vS 0 L.length), (10, vN L.length), (11, vN i), (15, vI 3)])) (by kernel_rfl) ?_
          refine kSeq ?_
          refine cSeq ?_
          refine cRegW (N := 5) [⟨[], [], [1]⟩, ⟨[], [], [4]⟩, ⟨[], [], []⟩, ⟨[], [], []⟩, ⟨[], [], [0]⟩] 0 [] (by rfl) (by rfl) (by kernel_rfl) (by kernel_rfl) (by kernel_rfl) ⟨nmsF (flatA3 _ _ _ _), ⟨nmsX (by kernel_rfl), ⟨nmsX (by kernel_rfl), ⟨nmsX (by kernel_rfl), ⟨nmsX (by kernel_rfl), trivial⟩⟩⟩⟩⟩ ?_
          refine segWH 3 (T1 := (mkT 31 [(1, vP 1 0), (2, vP 2 0), (3, vP 3 0), (5, vP 4 0), (6, vI 3), (9, vS 0 L.length), (10, vN L.length), (11, vN i), (15, vI 3), (18, .agg #[vN X, vN Y, vN Z, vS 0 L.length]), (19, .agg #[vI ((L.getD i default).x), vI ((L.getD i default).y), vI ((L.getD i default).z)]), (20, vI 3)])) (by kernel_rfl) ?_
          refine rW (m := ⟨[], [], []⟩) (v := .agg #[vI ((L.getD i default).x), vI (((L.getD i default).y) + 1), vI ((L.getD i default).z)]) rfl (by kernel_rfl) (stQ (args := [.agg #[vI ((L.getD i default).x), vI ((L.getD i default).y), vI ((L.getD i default).z)], vI 3]) rfl (by kernel_rfl) (Any.lay0 [] (beyond3 ((L.getD i default).x) ((L.getD i default).y) ((L.getD i default).z) (by first | assumption | omega | rfl | decide | exact HeapL.list _ _ _ _ | exact HeapL.nil _ _ _ | exact HeapL.all _ _ _ | (apply HeapL.lt64 <;> assumption) | (repeat' (first | assumption | apply or_lt64 | apply and_lt64 | apply andn_lt64 | apply pow_lt64 | (apply HeapL.lt64 <;> assumption))))) trivial rfl trivial rfl (by first | rfl | simp [mpV, mpA, mpS, mpP, renId, shift]) (by first | rfl | simp [mpV, mpA, mpS, mpP, renId, shift])) rfl (by kernel_rfl) (by kernel_rfl)) (by kernel_rfl) nr0 ?_
          refine rW (m := ⟨[], [], [0]⟩) (v := .bool (!hasL L ((L.getD i default).x) (((L.getD i default).y) + 1) ((L.getD i default).z))) rfl (by kernel_rfl) (stQ (args := [.agg #[vN X, vN Y, vN Z, vS 0 L.length], .agg #[vI ((L.getD i default).x), vI (((L.getD i default).y) + 1), vI ((L.getD i default).z)]]) rfl (by kernel_rfl) (Any.lay0 [0] (isBareB X Y Z L ((L.getD i default).x) (((L.getD i default).y) + 1) ((L.getD i default).z) (by first | assumption | omega | rfl | decide | exact HeapL.list _ _ _ _ | exact HeapL.nil _ _ _ | exact HeapL.all _ _ _ | (apply HeapL.lt64 <;> assumption) | (repeat' (first | assumption | apply or_lt64 | apply and_lt64 | apply andn_lt64 | apply pow_lt64 | (apply HeapL.lt64 <;> assumption)))) (by first | assumption | omega | rfl | decide | exact HeapL.list _ _ _ _ | exact HeapL.nil _ _ _ | exact HeapL.all _ _ _ | (apply HeapL.lt64 <;> assumption) | (repeat' (first | assumption | apply or_lt64 | apply and_lt64 | apply andn_lt64 | apply pow_lt64 | (apply HeapL.lt64 <;> assumption))))) ⟨rdF false (flatA3 _ _ _ _) rfl rfl, trivial⟩ rfl ⟨clF (flatA3 _ _ _ _), trivial⟩ rfl (by first | rfl | simp [mpV, mpA, mpS, mpP, renId, shift]) rfl) rfl (by kernel_rfl) (by kernel_rfl)) (by kernel_rfl) nr0 ?_
          refine segEndWH [1, 2, 3, 5, 6, 9, 10, 11, 15, 22] (T1 := (mkT 31 [(1, vP 1 0), (2, vP 2 0), (3, vP 3 0), (5, vP 4 0), (6, vI 3), (9, vS 0 L.length), (10, vN L.length), (11, vN i), (15, vI 3), (22, .bool (!hasL L ((L.getD i default).x) (((L.getD i default).y) + 1) ((L.getD i default).z)))])) (by kernel_rfl) ?_
          refine kSeq ?_
          cases h5 : ((!hasL L ((L.getD i default).x) (((L.getD i default).y) + 1) ((L.getD i default).z)) : Bool)
          ·
            have h5k := h5
            (try simp only [Bool.not_eq_true', Bool.not_eq_false', decide_eq_true_eq, decide_eq_false_iff_not, beq_iff_eq, bne_iff_ne, beq_eq_false_iff_ne, bne_eq_false_iff_eq, ne_eq, Decidable.not_not, Bool.and_eq_true, Bool.and_eq_false_imp, Bool.or_eq_true, Bool.or_eq_false_iff, Bool.not_eq_true, Int.not_lt, Int.not_le, ge_iff_le, gt_iff_lt] at h5)
            refine cFalse (by kernel_rfl) ?_
            refine cSkip ?_
            refine kBlk ?_
            refine kSeq ?_
            refine cReg ?_
            refine segEndH [1, 2, 3, 5, 9, 10, 11, 15] (T1 := (mkT 31 [(1, vP 1 0), (2, vP 2 0), (3, vP 3 0), (5, vP 4 0), (9, vS 0 L.length), (10, vN L.length), (11, vN i), (15, vI 4)])) (by kernel_rfl) ?_
            exact kLoop (6 - 4) (mkT 31 [(1, vP 1 0), (2, vP 2 0), (3, vP 3 0), (5, vP 4 0), (9, vS 0 L.length), (10, vN L.length), (11, vN i), (15, vI 4)]) [some ⟨a3s L, 74, false, false⟩, rB [vN X, vN Y, vN Z, vS 0 L.length] 40, rB [vI 0, vI 0, vI 0, vI 0, vI 0, vI 0] 57, rB [vN m0, vN m1, vN m2, vN m3, vN m4, vN m5] 57, rB [vI ((L.getD i default).x), vI ((L.getD i default).y), vI ((L.getD i default).z)] 74] (by omega) (wkSame [1, 2, 3, 5, 9, 10, 11, 15] (by kernel_rfl)) ⟨4, m0, m1, m2, m3, m4, m5, (by omega), (hm0), (hm1), (hm2), (by first | exact cntF_yes (by omega) hm3 (by assumption) | exact cntF_no (by omega) hm3 (by assumption)), (hm4), (hm5), rfl, rfl, rfl⟩
          ·
            have h5k := h5
            (try simp only [Bool.not_eq_true', Bool.not_eq_false', decide_eq_true_eq, decide_eq_false_iff_not, beq_iff_eq, bne_iff_ne, beq_eq_false_iff_ne, bne_eq_false_iff_eq, ne_eq, Decidable.not_not, Bool.and_eq_true, Bool.and_eq_false_imp, Bool.or_eq_true, Bool.or_eq_false_iff, Bool.not_eq_true, Int.not_lt, Int.not_le, ge_iff_le, gt_iff_lt] at h5)
            refine cTrue (by kernel_rfl) ?_
            refine cReg ?_
            refine segH 3 (T1 := (mkT 31 [(1, vP 1 0), (2, vP 2 0), (3, vP 3 0), (5, vP 4 0), (6, vI 3), (9, vS 0 L.length), (10, vN L.length), (11, vN i), (15, vI 3), (22, .bool true), (23, vI 3), (24, vP 3 3), (25, vN m3)])) (by kernel_rfl) ?_
            refine rOp (v := vN (m3 + 1)) (by kernel_rfl) (eAdd (k := .i64) (a := ((m3 : Nat) : Int)) (b := 1) (c := ((m3 + 1 : Nat) : Int)) (by kernel_rfl) (by kernel_rfl) (wr64 (by omega) (by omega) (by omega))) ?_
            refine segEnd [1, 2, 3, 5, 9, 10, 11, 15] (T1 := (mkT 31 [(1, vP 1 0), (2, vP 2 0), (3, vP 3 0), (5, vP 4 0), (9, vS 0 L.length), (10, vN L.length), (11, vN i), (15, vI 3)])) (H1 := [some ⟨a3s L, 74, false, false⟩, rB [vN X, vN Y, vN Z, vS 0 L.length] 40, rB [vI 0, vI 0, vI 0, vI 0, vI 0, vI 0] 57, rB [vN m0, vN m1, vN m2, vN (m3 + 1), vN m4, vN m5] 57, rB [vI ((L.getD i default).x), vI ((L.getD i default).y), vI ((L.getD i default).z)] 74]) (by kernel_rfl) ?_
            refine kBlk ?_
            refine kSeq ?_
            refine cReg ?_
            refine segEndH [1, 2, 3, 5, 9, 10, 11, 15] (T1 := (mkT 31 [(1, vP 1 0), (2, vP 2 0), (3, vP 3 0), (5, vP 4 0), (9, vS 0 L.length), (10, vN L.length), (11, vN i), (15, vI 4)])) (by kernel_rfl) ?_
            exact kLoop (6 - 4) (mkT 31 [(1, vP 1 0), (2, vP 2 0), (3, vP 3 0), (5, vP 4 0), (9, vS 0 L.length), (10, vN L.length), (11, vN i), (15, vI 4)]) [some ⟨a3s L, 74, false, false⟩, rB [vN X, vN Y, vN Z, vS 0 L.length] 40, rB [vI 0, vI 0, vI 0, vI 0, vI 0, vI 0] 57, rB [vN m0, vN m1, vN m2, vN (m3 + 1), vN m4, vN m5] 57, rB [vI ((L.getD i default).x), vI ((L.getD i default).y), vI ((L.getD i default).z)] 74] (by omega) (wkSame [1, 2, 3, 5, 9, 10, 11, 15] (by kernel_rfl)) ⟨4, m0, m1, m2, (m3 + 1), m4, m5, (by omega), (hm0), (hm1), (hm2), (by first | exact cntF_yes (by omega) hm3 (by assumption) | exact cntF_no (by omega) hm3 (by assumption)), (hm4), (hm5), rfl, rfl, rfl⟩
        ·
          refine cSeq ?_
          refine cReg ?_
          refine segEndH [1, 2, 3, 5, 9, 10, 11, 15, 16] (T1 := (mkT 31 [(1, vP 1 0), (2, vP 2 0), (3, vP 3 0), (5, vP 4 0), (9, vS 0 L.length), (10, vN L.length), (11, vN i), (15, vI 4), (16, .bool true)])) (by kernel_rfl) ?_
          refine kSeq ?_
          refine cSeq ?_
          refine cTrue (by kernel_rfl) ?_
          refine cSkip ?_
          refine kSeq ?_
          refine cSeq ?_
          refine cBlk ?_
          refine cSeq ?_
          refine cReg ?_
          refine segEndH [1, 2, 3, 5, 6, 9, 10, 11, 15] (T1 := (mkT 31 [(1, vP 1 0), (2, vP 2 0), (3, vP 3 0), (5, vP 4 0), (6, vI 4), (9, vS 0 L.length), (10, vN L.length), (11, vN i), (15, vI 4)])) (by kernel_rfl) ?_
          refine kSeq ?_
          refine cSeq ?_
          refine cRegW (N := 5) [⟨[], [], [1]⟩, ⟨[], [], [4]⟩, ⟨[], [], []⟩, ⟨[], [], []⟩, ⟨[], [], [0]⟩] 0 [] (by rfl) (by rfl) (by kernel_rfl) (by kernel_rfl) (by kernel_rfl) ⟨nmsF (flatA3 _ _ _ _), ⟨nmsX (by kernel_rfl), ⟨nmsX (by kernel_rfl), ⟨nmsX (by kernel_rfl), ⟨nmsX (by kernel_rfl), trivial⟩⟩⟩⟩⟩ ?_
          refine segWH 3 (T1 := (mkT 31 [(1, vP 1 0), (2, vP 2 0), (3, vP 3 0), (5, vP 4 0), (6, vI 4), (9, vS 0 L.length), (10, vN L.length), (11, vN i), (15, vI 4), (18, .agg #[vN X, vN Y, vN Z, vS 0 L.length]), (19, .agg #[vI ((L.getD i default).x), vI ((L.getD i default).y), vI ((L.getD i default).z)]), (20, vI 4)])) (by kernel_rfl) ?_
          refine rW (m := ⟨[], [], []⟩) (v := .agg #[vI ((L.getD i default).x), vI ((L.getD i default).y), vI (((L.getD i default).z) + (-1))]) rfl (by kernel_rfl) (stQ (args := [.agg #[vI ((L.getD i default).x), vI ((L.getD i default).y), vI ((L.getD i default).z)], vI 4]) rfl (by kernel_rfl) (Any.lay0 [] (beyond4 ((L.getD i default).x) ((L.getD i default).y) ((L.getD i default).z) (by first | assumption | omega | rfl | decide | exact HeapL.list _ _ _ _ | exact HeapL.nil _ _ _ | exact HeapL.all _ _ _ | (apply HeapL.lt64 <;> assumption) | (repeat' (first | assumption | apply or_lt64 | apply and_lt64 | apply andn_lt64 | apply pow_lt64 | (apply HeapL.lt64 <;> assumption))))) trivial rfl trivial rfl (by first | rfl | simp [mpV, mpA, mpS, mpP, renId, shift]) (by first | rfl | simp [mpV, mpA, mpS, mpP, renId, shift])) rfl (by kernel_rfl) (by kernel_rfl)) (by kernel_rfl) nr0 ?_
          refine rW (m := ⟨[], [], [0]⟩) (v := .bool (!hasL L ((L.getD i default).x) ((L.getD i default).y) (((L.getD i default).z) + (-1)))) rfl (by kernel_rfl) (stQ (args := [.agg #[vN X, vN Y, vN Z, vS 0 L.length], .agg #[vI ((L.getD i default).x), vI ((L.getD i default).y), vI (((L.getD i default).z) + (-1))]]) rfl (by kernel_rfl) (Any.lay0 [0] (isBareB X Y Z L ((L.getD i default).x) ((L.getD i default).y) (((L.getD i default).z) + (-1)) (by first | assumption | omega | rfl | decide | exact HeapL.list _ _ _ _ | exact HeapL.nil _ _ _ | exact HeapL.all _ _ _ | (apply HeapL.lt64 <;> assumption) | (repeat' (first | assumption | apply or_lt64 | apply and_lt64 | apply andn_lt64 | apply pow_lt64 | (apply HeapL.lt64 <;> assumption)))) (by first | assumption | omega | rfl | decide | exact HeapL.list _ _ _ _ | exact HeapL.nil _ _ _ | exact HeapL.all _ _ _ | (apply HeapL.lt64 <;> assumption) | (repeat' (first | assumption | apply or_lt64 | apply and_lt64 | apply andn_lt64 | apply pow_lt64 | (apply HeapL.lt64 <;> assumption))))) ⟨rdF false (flatA3 _ _ _ _) rfl rfl, trivial⟩ rfl ⟨clF (flatA3 _ _ _ _), trivial⟩ rfl (by first | rfl | simp [mpV, mpA, mpS, mpP, renId, shift]) rfl) rfl (by kernel_rfl) (by kernel_rfl)) (by kernel_rfl) nr0 ?_
          refine segEndWH [1, 2, 3, 5, 6, 9, 10, 11, 15, 22] (T1 := (mkT 31 [(1, vP 1 0), (2, vP 2 0), (3, vP 3 0), (5, vP 4 0), (6, vI 4), (9, vS 0 L.length), (10, vN L.length), (11, vN i), (15, vI 4), (22, .bool (!hasL L ((L.getD i default).x) ((L.getD i default).y) (((L.getD i default).z) + (-1))))])) (by kernel_rfl) ?_
          refine kSeq ?_
          cases h6 : ((!hasL L ((L.getD i default).x) ((L.getD i default).y) (((L.getD i default).z) + (-1))) : Bool)
          ·
            have h6k := h6
            (try simp only [Bool.not_eq_true', Bool.not_eq_false', decide_eq_true_eq, decide_eq_false_iff_not, beq_iff_eq, bne_iff_ne, beq_eq_false_iff_ne, bne_eq_false_iff_eq, ne_eq, Decidable.not_not, Bool.and_eq_true, Bool.and_eq_false_imp, Bool.or_eq_true, Bool.or_eq_false_iff, Bool.not_eq_true, Int.not_lt, Int.not_le, ge_iff_le, gt_iff_lt] at h6)
            refine cFalse (by kernel_rfl) ?_
            refine cSkip ?_
            refine kBlk ?_
            refine kSeq ?_
            refine cReg ?_
            refine segEndH [1, 2, 3, 5, 9, 10, 11, 15] (T1 := (mkT 31 [(1, vP 1 0), (2, vP 2 0), (3, vP 3 0), (5, vP 4 0), (9, vS 0 L.length), (10, vN L.length), (11, vN i), (15, vI 5)])) (by kernel_rfl) ?_
            exact kLoop (6 - 5) (mkT 31 [(1, vP 1 0), (2, vP 2 0), (3, vP 3 0), (5, vP 4 0), (9, vS 0 L.length), (10, vN L.length), (11, vN i), (15, vI 5)]) [some ⟨a3s L, 74, false, false⟩, rB [vN X, vN Y, vN Z, vS 0 L.length] 40, rB [vI 0, vI 0, vI 0, vI 0, vI 0, vI 0] 57, rB [vN m0, vN m1, vN m2, vN m3, vN m4, vN m5] 57, rB [vI ((L.getD i default).x), vI ((L.getD i default).y), vI ((L.getD i default).z)] 74] (by omega) (wkSame [1, 2, 3, 5, 9, 10, 11, 15] (by kernel_rfl)) ⟨5, m0, m1, m2, m3, m4, m5, (by omega), (hm0), (hm1), (hm2), (hm3), (by first | exact cntF_yes (by omega) hm4 (by assumption) | exact cntF_no (by omega) hm4 (by assumption)), (hm5), rfl, rfl, rfl⟩
          ·
            have h6k := h6
            (try simp only [Bool.not_eq_true', Bool.not_eq_false', decide_eq_true_eq, decide_eq_false_iff_not, beq_iff_eq, bne_iff_ne, beq_eq_false_iff_ne, bne_eq_false_iff_eq, ne_eq, Decidable.not_not, Bool.and_eq_true, Bool.and_eq_false_imp, Bool.or_eq_true, Bool.or_eq_false_iff, Bool.not_eq_true, Int.not_lt, Int.not_le, ge_iff_le, gt_iff_lt] at h6)
            refine cTrue (by kernel_rfl) ?_
            refine cReg ?_
            refine segH 3 (T1 := (mkT 31 [(1, vP 1 0), (2, vP 2 0), (3, vP 3 0), (5, vP 4 0), (6, vI 4), (9, vS 0 L.length), (10, vN L.length), (11, vN i), (15, vI 4), (22, .bool true), (23, vI 4), (24, vP 3 4), (25, vN m4)])) (by kernel_rfl) ?_
            refine rOp (v := vN (m4 + 1)) (by kernel_rfl) (eAdd (k := .i64) (a := ((m4 : Nat) : Int)) (b := 1) (c := ((m4 + 1 : Nat) : Int)) (by kernel_rfl) (by kernel_rfl) (wr64 (by omega) (by omega) (by omega))) ?_
            refine segEnd [1, 2, 3, 5, 9, 10, 11, 15] (T1 := (mkT 31 [(1, vP 1 0), (2, vP 2 0), (3, vP 3 0), (5, vP 4 0), (9, vS 0 L.length), (10, vN L.length), (11, vN i), (15, vI 4)])) (H1 := [some ⟨a3s L, 74, false, false⟩, rB [vN X, vN Y, vN Z, vS 0 L.length] 40, rB [vI 0, vI 0, vI 0, vI 0, vI 0, vI 0] 57, rB [vN m0, vN m1, vN m2, vN m3, vN (m4 + 1), vN m5] 57, rB [vI ((L.getD i default).x), vI ((L.getD i default).y), vI ((L.getD i default).z)] 74]) (by kernel_rfl) ?_
            refine kBlk ?_
            refine kSeq ?_
            refine cReg ?_
            refine segEndH [1, 2, 3, 5, 9, 10, 11, 15] (T1 := (mkT 31 [(1, vP 1 0), (2, vP 2 0), (3, vP 3 0), (5, vP 4 0), (9, vS 0 L.length), (10, vN L.length), (11, vN i), (15, vI 5)])) (by kernel_rfl) ?_
            exact kLoop (6 - 5) (mkT 31 [(1, vP 1 0), (2, vP 2 0), (3, vP 3 0), (5, vP 4 0), (9, vS 0 L.length), (10, vN L.length), (11, vN i), (15, vI 5)]) [some ⟨a3s L, 74, false, false⟩, rB [vN X, vN Y, vN Z, vS 0 L.length] 40, rB [vI 0, vI 0, vI 0, vI 0, vI 0, vI 0] 57, rB [vN m0, vN m1, vN m2, vN m3, vN (m4 + 1), vN m5] 57, rB [vI ((L.getD i default).x), vI ((L.getD i default).y), vI ((L.getD i default).z)] 74] (by omega) (wkSame [1, 2, 3, 5, 9, 10, 11, 15] (by kernel_rfl)) ⟨5, m0, m1, m2, m3, (m4 + 1), m5, (by omega), (hm0), (hm1), (hm2), (hm3), (by first | exact cntF_yes (by omega) hm4 (by assumption) | exact cntF_no (by omega) hm4 (by assumption)), (hm5), rfl, rfl, rfl⟩
        ·
          refine cSeq ?_
          refine cReg ?_
          refine segEndH [1, 2, 3, 5, 9, 10, 11, 15, 16] (T1 := (mkT 31 [(1, vP 1 0), (2, vP 2 0), (3, vP 3 0), (5, vP 4 0), (9, vS 0 L.length), (10, vN L.length), (11, vN i), (15, vI 5), (16, .bool true)])) (by kernel_rfl) ?_
          refine kSeq ?_
          refine cSeq ?_
          refine cTrue (by kernel_rfl) ?_
          refine cSkip ?_
          refine kSeq ?_
          refine cSeq ?_
          refine cBlk ?_
          refine cSeq ?_
          refine cReg ?_
          refine segEndH [1, 2, 3, 5, 6, 9, 10, 11, 15] (T1 := (mkT 31 [(1, vP 1 0), (2, vP 2 0), (3, vP 3 0), (5, vP 4 0), (6, vI 5), (9, vS 0 L.length), (10, vN L.length), (11, vN i), (15, vI 5)])) (by kernel_rfl) ?_
          refine kSeq ?_
          refine cSeq ?_
          refine cRegW (N := 5) [⟨[], [], [1]⟩, ⟨[], [], [4]⟩, ⟨[], [], []⟩, ⟨[], [], []⟩, ⟨[], [], [0]⟩] 0 [] (by rfl) (by rfl) (by kernel_rfl) (by kernel_rfl) (by kernel_rfl) ⟨nmsF (flatA3 _ _ _ _), ⟨nmsX (by kernel_rfl), ⟨nmsX (by kernel_rfl), ⟨nmsX (by kernel_rfl), ⟨nmsX (by kernel_rfl), trivial⟩⟩⟩⟩⟩ ?_
          refine segWH 3 (T1 := (mkT 31 [(1, vP 1 0), (2, vP 2 0), (3, vP 3 0), (5, vP 4 0), (6, vI 5), (9, vS 0 L.length), (10, vN L.length), (11, vN i), (15, vI 5), (18, .agg #[vN X, vN Y, vN Z, vS 0 L.length]), (19, .agg #[vI ((L.getD i default).x), vI ((L.getD i default).y), vI ((L.getD i default).z)]), (20, vI 5)])) (by kernel_rfl) ?_
          refine rW (m := ⟨[], [], []⟩) (v := .agg #[vI ((L.getD i default).x), vI ((L.getD i default).y), vI (((L.getD i default).z) + 1)]) rfl (by kernel_rfl) (stQ (args := [.agg #[vI ((L.getD i default).x), vI ((L.getD i default).y), vI ((L.getD i default).z)], vI 5]) rfl (by kernel_rfl) (Any.lay0 [] (beyond5 ((L.getD i default).x) ((L.getD i default).y) ((L.getD i default).z) (by first | assumption | omega | rfl | decide | exact HeapL.list _ _ _ _ | exact HeapL.nil _ _ _ | exact HeapL.all _ _ _ | (apply HeapL.lt64 <;> assumption) | (repeat' (first | assumption | apply or_lt64 | apply and_lt64 | apply andn_lt64 | apply pow_lt64 | (apply HeapL.lt64 <;> assumption))))) trivial rfl trivial rfl (by first | rfl | simp [mpV, mpA, mpS, mpP, renId, shift]) (by first | rfl | simp [mpV, mpA, mpS, mpP, renId, shift])) rfl (by kernel_rfl) (by kernel_rfl)) (by kernel_rfl) nr0 ?_
          refine rW (m := ⟨[], [], [0]⟩) (v := .bool (!hasL L ((L.getD i default).x) ((L.getD i default).y) (((L.getD i default).z) + 1))) rfl (by kernel_rfl) (stQ (args := [.agg #[vN X, vN Y, vN Z, vS 0 L.length], .agg #[vI ((L.getD i default).x), vI ((L.getD i default).y), vI (((L.getD i default).z) + 1)]]) rfl (by kernel_rfl) (Any.lay0 [0] (isBareB X Y Z L ((L.getD i default).x) ((L.getD i default).y) (((L.getD i default).z) + 1) (by first | assumption | omega | rfl | decide | exact HeapL.list _ _ _ _ | exact HeapL.nil _ _ _ | exact HeapL.all _ _ _ | (apply HeapL.lt64 <;> assumption) | (repeat' (first | assumption | apply or_lt64 | apply and_lt64 | apply andn_lt64 | apply pow_lt64 | (apply HeapL.lt64 <;> assumption)))) (by first | assumption | omega | rfl | decide | exact HeapL.list _ _ _ _ | exact HeapL.nil _ _ _ | exact HeapL.all _ _ _ | (apply HeapL.lt64 <;> assumption) | (repeat' (first | assumption | apply or_lt64 | apply and_lt64 | apply andn_lt64 | apply pow_lt64 | (apply HeapL.lt64 <;> assumption))))) ⟨rdF false (flatA3 _ _ _ _) rfl rfl, trivial⟩ rfl ⟨clF (flatA3 _ _ _ _), trivial⟩ rfl (by first | rfl | simp [mpV, mpA, mpS, mpP, renId, shift]) rfl) rfl (by kernel_rfl) (by kernel_rfl)) (by kernel_rfl) nr0 ?_
          refine segEndWH [1, 2, 3, 5, 6, 9, 10, 11, 15, 22] (T1 := (mkT 31 [(1, vP 1 0), (2, vP 2 0), (3, vP 3 0), (5, vP 4 0), (6, vI 5), (9, vS 0 L.length), (10, vN L.length), (11, vN i), (15, vI 5), (22, .bool (!hasL L ((L.getD i default).x) ((L.getD i default).y) (((L.getD i default).z) + 1)))])) (by kernel_rfl) ?_
          refine kSeq ?_
          cases h7 : ((!hasL L ((L.getD i default).x) ((L.getD i default).y) (((L.getD i default).z) + 1)) : Bool)
          ·
            have h7k := h7
            (try simp only [Bool.not_eq_true', Bool.not_eq_false', decide_eq_true_eq, decide_eq_false_iff_not, beq_iff_eq, bne_iff_ne, beq_eq_false_iff_ne, bne_eq_false_iff_eq, ne_eq, Decidable.not_not, Bool.and_eq_true, Bool.and_eq_false_imp, Bool.or_eq_true, Bool.or_eq_false_iff, Bool.not_eq_true, Int.not_lt, Int.not_le, ge_iff_le, gt_iff_lt] at h7)
            refine cFalse (by kernel_rfl) ?_
            refine cSkip ?_
            refine kBlk ?_
            refine kSeq ?_
            refine cReg ?_
            refine segEndH [1, 2, 3, 5, 9, 10, 11, 15] (T1 := (mkT 31 [(1, vP 1 0), (2, vP 2 0), (3, vP 3 0), (5, vP 4 0), (9, vS 0 L.length), (10, vN L.length), (11, vN i), (15, vI 6)])) (by kernel_rfl) ?_
            exact kLoop (6 - 6) (mkT 31 [(1, vP 1 0), (2, vP 2 0), (3, vP 3 0), (5, vP 4 0), (9, vS 0 L.length), (10, vN L.length), (11, vN i), (15, vI 6)]) [some ⟨a3s L, 74, false, false⟩, rB [vN X, vN Y, vN Z, vS 0 L.length] 40, rB [vI 0, vI 0, vI 0, vI 0, vI 0, vI 0] 57, rB [vN m0, vN m1, vN m2, vN m3, vN m4, vN m5] 57, rB [vI ((L.getD i default).x), vI ((L.getD i default).y), vI ((L.getD i default).z)] 74] (by omega) (wkSame [1, 2, 3, 5, 9, 10, 11, 15] (by kernel_rfl)) ⟨6, m0, m1, m2, m3, m4, m5, (by omega), (hm0), (hm1), (hm2), (hm3), (hm4), (by first | exact cntF_yes (by omega) hm5 (by assumption) | exact cntF_no (by omega) hm5 (by assumption)), rfl, rfl, rfl⟩
          ·
            have h7k := h7
            (try simp only [Bool.not_eq_true', Bool.not_eq_false', decide_eq_true_eq, decide_eq_false_iff_not, beq_iff_eq, bne_iff_ne, beq_eq_false_iff_ne, bne_eq_false_iff_eq, ne_eq, Decidable.not_not, Bool.and_eq_true, Bool.and_eq_false_imp, Bool.or_eq_true, Bool.or_eq_false_iff, Bool.not_eq_true, Int.not_lt, Int.not_le, ge_iff_le, gt_iff_lt] at h7)
            refine cTrue (by kernel_rfl) ?_
            refine cReg ?_
            refine segH 3 (T1 := (mkT 31 [(1, vP 1 0), (2, vP 2 0), (3, vP 3 0), (5, vP 4 0), (6, vI 5), (9, vS 0 L.length), (10, vN L.length), (11, vN i), (15, vI 5), (22, .bool true), (23, vI 5), (24, vP 3 5), (25, vN m5)])) (by kernel_rfl) ?_
            refine rOp (v := vN (m5 + 1)) (by kernel_rfl) (eAdd (k := .i64) (a := ((m5 : Nat) : Int)) (b := 1) (c := ((m5 + 1 : Nat) : Int)) (by kernel_rfl) (by kernel_rfl) (wr64 (by omega) (by omega) (by omega))) ?_
            refine segEnd [1, 2, 3, 5, 9, 10, 11, 15] (T1 := (mkT 31 [(1, vP 1 0), (2, vP 2 0), (3, vP 3 0), (5, vP 4 0), (9, vS 0 L.length), (10, vN L.length), (11, vN i), (15, vI 5)])) (H1 := [some ⟨a3s L, 74, false, false⟩, rB [vN X, vN Y, vN Z, vS 0 L.length] 40, rB [vI 0, vI 0, vI 0, vI 0, vI 0, vI 0] 57, rB [vN m0, vN m1, vN m2, vN m3, vN m4, vN (m5 + 1)] 57, rB [vI ((L.getD i default).x), vI ((L.getD i default).y), vI ((L.getD i default).z)] 74]) (by kernel_rfl) ?_
            refine kBlk ?_
            refine kSeq ?_
            refine cReg ?_
            refine segEndH [1, 2, 3, 5, 9, 10, 11, 15] (T1 := (mkT 31 [(1, vP 1 0), (2, vP 2 0), (3, vP 3 0), (5, vP 4 0), (9, vS 0 L.length), (10, vN L.length), (11, vN i), (15, vI 6)])) (by kernel_rfl) ?_
            exact kLoop (6 - 6) (mkT 31 [(1, vP 1 0), (2, vP 2 0), (3, vP 3 0), (5, vP 4 0), (9, vS 0 L.length), (10, vN L.length), (11, vN i), (15, vI 6)]) [some ⟨a3s L, 74, false, false⟩, rB [vN X, vN Y, vN Z, vS 0 L.length] 40, rB [vI 0, vI 0, vI 0, vI 0, vI 0, vI 0] 57, rB [vN m0, vN m1, vN m2, vN m3, vN m4, vN (m5 + 1)] 57, rB [vI ((L.getD i default).x), vI ((L.getD i default).y), vI ((L.getD i default).z)] 74] (by omega) (wkSame [1, 2, 3, 5, 9, 10, 11, 15] (by kernel_rfl)) ⟨6, m0, m1, m2, m3, m4, (m5 + 1), (by omega), (hm0), (hm1), (hm2), (hm3), (hm4), (by first | exact cntF_yes (by omega) hm5 (by assumption) | exact cntF_no (by omega) hm5 (by assumption)), rfl, rfl, rfl⟩
        ·
          refine cSeq ?_
          refine cReg ?_
          refine segEndH [1, 2, 3, 5, 9, 10, 11, 15, 16] (T1 := (mkT 31 [(1, vP 1 0), (2, vP 2 0), (3, vP 3 0), (5, vP 4 0), (9, vS 0 L.length), (10, vN L.length), (11, vN i), (15, vI 6), (16, .bool false)])) (by kernel_rfl) ?_
          refine kSeq ?_
          refine cSeq ?_
          refine cFalse (by kernel_rfl) ?_
          refine cExit ?_
          refine kSeqE ?_
          refine kLoopE ?_
          refine kBlkHit ?_
          refine kBlk ?_
          refine kSeq ?_
          refine cReg ?_
          refine rOp (v := vN (i + 1)) (by kernel_rfl) (eAdd (k := .i64) (a := ((i : Nat) : Int)) (b := 1) (c := ((i + 1 : Nat) : Int)) (by kernel_rfl) (by kernel_rfl) (wr64 (by omega) (by omega) (by omega))) ?_
          refine segEndH [1, 2, 3, 9, 10, 11] (T1 := (mkT 31 [(1, vP 1 0), (2, vP 2 0), (3, vP 3 0), (9, vS 0 L.length), (10, vN L.length), (11, vN (i + 1))])) (by kernel_rfl) ?_
          exact kLoop (L.length - (i + 1)) (mkT 31 [(1, vP 1 0), (2, vP 2 0), (3, vP 3 0), (9, vS 0 L.length), (10, vN L.length), (11, vN (i + 1))]) [some ⟨a3s L, 74, false, false⟩, rB [vN X, vN Y, vN Z, vS 0 L.length] 40, rB [vI 0, vI 0, vI 0, vI 0, vI 0, vI 0] 57, rB [vN m0, vN m1, vN m2, vN m3, vN m4, vN m5] 57] (by omega) (wkDrop [1, 2, 3, 9, 10, 11] _ rfl rfl ((closedL ⟨clF (flatA3 _ _ _ _), ⟨clX rfl, ⟨clX rfl, ⟨clX rfl, trivial⟩⟩⟩⟩)) (by kernel_rfl) rfl) ⟨(i + 1), m0, m1, m2, m3, m4, m5, (by omega), (hm0), (hm1), (hm2), (hm3), (hm4), (hm5), rfl, rfl, rfl⟩

set_option maxRecDepth 100000 in
set_option maxHeartbeats 4000000 in
theorem l6Sum (n0 : Nat) (n1 : Nat) (n2 : Nat) (n3 : Nat) (n4 : Nat) (n5 : Nat) (hq0 : n0 ≤ 64) (hq1 : n1 ≤ 64) (hq2 : n2 ≤ 64) (hq3 : n3 ≤ 64) (hq4 : n4 ≤ 64) (hq5 : n5 ≤ 64) : Sound Try.prog 93 [.agg #[vN n0, vN n1, vN n2, vN n3, vN n4, vN n5]] [] (vN (sum6 n0 n1 n2 n3 n4 n5 6)) [] := by
  refine sound_intro (C := cx) Try.func93 rfl (by kernel_rfl) fun hcl => ?_
  refine cSeq ?_
  refine cReg ?_
  refine segEnd [1] (T1 := (mkT 15 [(1, vP 0 0)])) (H1 := [rB [vN n0, vN n1, vN n2, vN n3, vN n4, vN n5] 57]) (by kernel_rfl) ?_
  refine kSeq ?_
  refine cSeq ?_
  refine cReg ?_
  refine segEndH [1, 3] (T1 := (mkT 15 [(1, vP 0 0), (3, vI 0)])) (by kernel_rfl) ?_
  refine kSeq ?_
  refine cSeq ?_
  refine cSeq ?_
  refine cReg ?_
  refine segEndH [1, 3, 4] (T1 := (mkT 15 [(1, vP 0 0), (3, vI 0), (4, vI 0)])) (by kernel_rfl) ?_
  refine kSeq ?_
  refine cBlk ?_
  -- loop
  refine cLoop (fun mm T H => ∃ k : Nat, ∃ s : Nat, (k ≤ 6) ∧ (s = sum6 n0 n1 n2 n3 n4 n5 k) ∧ (s ≤ 64 * k) ∧ mm = 6 - k ∧ T = (mkT 15 [(1, vP 0 0), (3, vN s), (4, vN k)]) ∧ H = [rB [vN n0, vN n1, vN n2, vN n3, vN n4, vN n5] 57]) (6 - 0) (mkT 15 [(1, vP 0 0), (3, vI 0), (4, vI 0)]) [rB [vN n0, vN n1, vN n2, vN n3, vN n4, vN n5] 57] (wkSame [1, 3, 4] (by kernel_rfl)) ?_ ?_
  · exact ⟨0, 0, (Nat.zero_le _), (rfl), (by omega), rfl, rfl, rfl⟩
  · rintro _ _ _ ⟨k, s, hk, hs1, hb, rfl, rfl, rfl⟩
    have hcase : k = 0 ∨ k = 1 ∨ k = 2 ∨ k = 3 ∨ k = 4 ∨ k = 5 ∨ k = 6 := by omega
    rcases hcase with rfl | rfl | rfl | rfl | rfl | rfl | rfl
    ·
      refine cSeq ?_
      refine cSeq ?_
      refine cReg ?_
      refine segEndH [1, 3, 4, 6] (T1 := (mkT 15 [(1, vP 0 0), (3, vN s), (4, vI 0), (6, .bool true)])) (by kernel_rfl) ?_
      refine kSeq ?_
      refine cTrue (by kernel_rfl) ?_
      refine cSkip ?_
      refine kSeq ?_
      refine cSeq ?_
      refine cBlk ?_
      refine cReg ?_
      refine segH 4 (T1 := (mkT 15 [(1, vP 0 0), (3, vN s), (4, vI 0), (6, .bool true), (9, vN s), (10, vI 0), (11, vP 0 0), (12, vN n0)])) (by kernel_rfl) ?_
      refine rOp (v := vN (s + n0)) (by kernel_rfl) (eAdd (k := .i64) (a := ((s : Nat) : Int)) (b := ((n0 : Nat) : Int)) (c := ((s + n0 : Nat) : Int)) (by kernel_rfl) (by kernel_rfl) (wr64 (by omega) (by omega) (by omega))) ?_
      refine segEndH [1, 3, 4] (T1 := (mkT 15 [(1, vP 0 0), (3, vN (s + n0)), (4, vI 0)])) (by kernel_rfl) ?_
      refine kBlk ?_
      refine kSeq ?_
      refine cReg ?_
      refine segEndH [1, 3, 4] (T1 := (mkT 15 [(1, vP 0 0), (3, vN (s + n0)), (4, vI 1)])) (by kernel_rfl) ?_
      exact kLoop (6 - 1) (mkT 15 [(1, vP 0 0), (3, vN (s + n0)), (4, vI 1)]) [rB [vN n0, vN n1, vN n2, vN n3, vN n4, vN n5] 57] (by omega) (wkSame [1, 3, 4] (by kernel_rfl)) ⟨1, (s + n0), (by omega), (by rw [hs1]; rfl), (by omega), rfl, rfl, rfl⟩
    ·
      refine cSeq ?_
      refine cSeq ?_
      refine cReg ?_
      refine segEndH [1, 3, 4, 6] (T1 := (mkT 15 [(1, vP 0 0), (3, vN s), (4, vI 1), (6, .bool true)])) (by kernel_rfl) ?_
      refine kSeq ?_
      refine cTrue (by kernel_rfl) ?_
      refine cSkip ?_
      refine kSeq ?_
      refine cSeq ?_
      refine cBlk ?_
      refine cReg ?_
      refine segH 4 (T1 := (mkT 15 [(1, vP 0 0), (3, vN s), (4, vI 1), (6, .bool true), (9, vN s), (10, vI 1), (11, vP 0 1), (12, vN n1)])) (by kernel_rfl) ?_
      refine rOp (v := vN (s + n1)) (by kernel_rfl) (eAdd (k := .i64) (a := ((s : Nat) : Int)) (b := ((n1 : Nat) : Int)) (c := ((s + n1 : Nat) : Int)) (by kernel_rfl) (by kernel_rfl) (wr64 (by omega) (by omega) (by omega))) ?_
      refine segEndH [1, 3, 4] (T1 := (mkT 15 [(1, vP 0 0), (3, vN (s + n1)), (4, vI 1)])) (by kernel_rfl) ?_
      refine kBlk ?_
      refine kSeq ?_
      refine cReg ?_
      refine segEndH [1, 3, 4] (T1 := (mkT 15 [(1, vP 0 0), (3, vN (s + n1)), (4, vI 2)])) (by kernel_rfl) ?_
      exact kLoop (6 - 2) (mkT 15 [(1, vP 0 0), (3, vN (s + n1)), (4, vI 2)]) [rB [vN n0, vN n1, vN n2, vN n3, vN n4, vN n5] 57] (by omega) (wkSame [1, 3, 4] (by kernel_rfl)) ⟨2, (s + n1), (by omega), (by rw [hs1]; rfl), (by omega), rfl, rfl, rfl⟩
    ·
      refine cSeq ?_
      refine cSeq ?_
      refine cReg ?_
      refine segEndH [1, 3, 4, 6] (T1 := (mkT 15 [(1, vP 0 0), (3, vN s), (4, vI 2), (6, .bool true)])) (by kernel_rfl) ?_
      refine kSeq ?_
      refine cTrue (by kernel_rfl) ?_
      refine cSkip ?_
      refine kSeq ?_
      refine cSeq ?_
      refine cBlk ?_
      refine cReg ?_
      refine segH 4 (T1 := (mkT 15 [(1, vP 0 0), (3, vN s), (4, vI 2), (6, .bool true), (9, vN s), (10, vI 2), (11, vP 0 2), (12, vN n2)])) (by kernel_rfl) ?_
      refine rOp (v := vN (s + n2)) (by kernel_rfl) (eAdd (k := .i64) (a := ((s : Nat) : Int)) (b := ((n2 : Nat) : Int)) (c := ((s + n2 : Nat) : Int)) (by kernel_rfl) (by kernel_rfl) (wr64 (by omega) (by omega) (by omega))) ?_
      refine segEndH [1, 3, 4] (T1 := (mkT 15 [(1, vP 0 0), (3, vN (s + n2)), (4, vI 2)])) (by kernel_rfl) ?_
      refine kBlk ?_
      refine kSeq ?_
      refine cReg ?_
      refine segEndH [1, 3, 4] (T1 := (mkT 15 [(1, vP 0 0), (3, vN (s + n2)), (4, vI 3)])) (by kernel_rfl) ?_
      exact kLoop (6 - 3) (mkT 15 [(1, vP 0 0), (3, vN (s + n2)), (4, vI 3)]) [rB [vN n0, vN n1, vN n2, vN n3, vN n4, vN n5] 57] (by omega) (wkSame [1, 3, 4] (by kernel_rfl)) ⟨3, (s + n2), (by omega), (by rw [hs1]; rfl), (by omega), rfl, rfl, rfl⟩
    ·
      refine cSeq ?_
      refine cSeq ?_
      refine cReg ?_
      refine segEndH [1, 3, 4, 6] (T1 := (mkT 15 [(1, vP 0 0), (3, vN s), (4, vI 3), (6, .bool true)])) (by kernel_rfl) ?_
      refine kSeq ?_
      refine cTrue (by kernel_rfl) ?_
      refine cSkip ?_
      refine kSeq ?_
      refine cSeq ?_
      refine cBlk ?_
      refine cReg ?_
      refine segH 4 (T1 := (mkT 15 [(1, vP 0 0), (3, vN s), (4, vI 3), (6, .bool true), (9, vN s), (10, vI 3), (11, vP 0 3), (12, vN n3)])) (by kernel_rfl) ?_
      refine rOp (v := vN (s + n3)) (by kernel_rfl) (eAdd (k := .i64) (a := ((s : Nat) : Int)) (b := ((n3 : Nat) : Int)) (c := ((s + n3 : Nat) : Int)) (by kernel_rfl) (by kernel_rfl) (wr64 (by omega) (by omega) (by omega))) ?_
      refine segEndH [1, 3, 4] (T1 := (mkT 15 [(1, vP 0 0), (3, vN (s + n3)), (4, vI 3)])) (by kernel_rfl) ?_
      refine kBlk ?_
      refine kSeq ?_
      refine cReg ?_
      refine segEndH [1, 3, 4] (T1 := (mkT 15 [(1, vP 0 0), (3, vN (s + n3)), (4, vI 4)])) (by kernel_rfl) ?_
      exact kLoop (6 - 4) (mkT 15 [(1, vP 0 0), (3, vN (s + n3)), (4, vI 4)]) [rB [vN n0, vN n1, vN n2, vN n3, vN n4, vN n5] 57] (by omega) (wkSame [1, 3, 4] (by kernel_rfl)) ⟨4, (s + n3), (by omega), (by rw [hs1]; rfl), (by omega), rfl, rfl, rfl⟩
    ·
      refine cSeq ?_
      refine cSeq ?_
      refine cReg ?_
      refine segEndH [1, 3, 4, 6] (T1 := (mkT 15 [(1, vP 0 0), (3, vN s), (4, vI 4), (6, .bool true)])) (by kernel_rfl) ?_
      refine kSeq ?_
      refine cTrue (by kernel_rfl) ?_
      refine cSkip ?_
      refine kSeq ?_
      refine cSeq ?_
      refine cBlk ?_
      refine cReg ?_
      refine segH 4 (T1 := (mkT 15 [(1, vP 0 0), (3, vN s), (4, vI 4), (6, .bool true), (9, vN s), (10, vI 4), (11, vP 0 4), (12, vN n4)])) (by kernel_rfl) ?_
      refine rOp (v := vN (s + n4)) (by kernel_rfl) (eAdd (k := .i64) (a := ((s : Nat) : Int)) (b := ((n4 : Nat) : Int)) (c := ((s + n4 : Nat) : Int)) (by kernel_rfl) (by kernel_rfl) (wr64 (by omega) (by omega) (by omega))) ?_
      refine segEndH [1, 3, 4] (T1 := (mkT 15 [(1, vP 0 0), (3, vN (s + n4)), (4, vI 4)])) (by kernel_rfl) ?_
      refine kBlk ?_
      refine kSeq ?_
      refine cReg ?_
      refine segEndH [1, 3, 4] (T1 := (mkT 15 [(1, vP 0 0), (3, vN (s + n4)), (4, vI 5)])) (by kernel_rfl) ?_
      exact kLoop (6 - 5) (mkT 15 [(1, vP 0 0), (3, vN (s + n4)), (4, vI 5)]) [rB [vN n0, vN n1, vN n2, vN n3, vN n4, vN n5] 57] (by omega) (wkSame [1, 3, 4] (by kernel_rfl)) ⟨5, (s + n4), (by omega), (by rw [hs1]; rfl), (by omega), rfl, rfl, rfl⟩
    ·
      refine cSeq ?_
      refine cSeq ?_
      refine cReg ?_
      refine segEndH [1, 3, 4, 6] (T1 := (mkT 15 [(1, vP 0 0), (3, vN s), (4, vI 5), (6, .bool true)])) (by kernel_rfl) ?_
      refine kSeq ?_
      refine cTrue (by kernel_rfl) ?_
      refine cSkip ?_
      refine kSeq ?_
      refine cSeq ?_
      refine cBlk ?_
      refine cReg ?_
      refine segH 4 (T1 := (mkT 15 [(1, vP 0 0), (3, vN s), (4, vI 5), (6, .bool true), (9, vN s), (10, vI 5), (11, vP 0 5), (12, vN n5)])) (by kernel_rfl) ?_
      refine rOp (v := vN (s + n5)) (by kernel_rfl) (eAdd (k := .i64) (a := ((s : Nat) : Int)) (b := ((n5 : Nat) : Int)) (c := ((s + n5 : Nat) : Int)) (by kernel_rfl) (by kernel_rfl) (wr64 (by omega) (by omega) (by omega))) ?_
      refine segEndH [1, 3, 4] (T1 := (mkT 15 [(1, vP 0 0), (3, vN (s + n5)), (4, vI 5)])) (by kernel_rfl) ?_
      refine kBlk ?_
      refine kSeq ?_
      refine cReg ?_
      refine segEndH [1, 3, 4] (T1 := (mkT 15 [(1, vP 0 0), (3, vN (s + n5)), (4, vI 6)])) (by kernel_rfl) ?_
      exact kLoop (6 - 6) (mkT 15 [(1, vP 0 0), (3, vN (s + n5)), (4, vI 6)]) [rB [vN n0, vN n1, vN n2, vN n3, vN n4, vN n5] 57] (by omega) (wkSame [1, 3, 4] (by kernel_rfl)) ⟨6, (s + n5), (by omega), (by rw [hs1]; rfl), (by omega), rfl, rfl, rfl⟩
    ·
      refine cSeq ?_
      refine cSeq ?_
      refine cReg ?_
      refine segEndH [1, 3, 4, 6] (T1 := (mkT 15 [(1, vP 0 0), (3, vN s), (4, vI 6), (6, .bool false)])) (by kernel_rfl) ?_
      refine kSeq ?_
      refine cFalse (by kernel_rfl) ?_
      refine cExit ?_
      refine kSeqE ?_
      refine kLoopE ?_
      refine kBlkHit ?_
      refine kSeq ?_
      refine cSeq ?_
      refine cReg ?_
      refine segEndH [2] (T1 := (mkT 15 [(2, vN s)])) (by kernel_rfl) ?_
      refine kSeq ?_
      refine cRet ?_
      -- end
      have he0 : (s : Nat) = sum6 n0 n1 n2 n3 n4 n5 6 := by first | exact hs1 | omega
      refine endCast (v1 := vN s) (H1 := []) (by first | rfl | ((try rw [← he0]); done) | (simp only [← he0]; done)) (by first | rfl | ((try rw [← he0]); done) | (simp only [← he0]; done)) ?_
      exact endQ (Or.inr rfl) (l := [vN s]) [rB [vN n0, vN n1, vN n2, vN n3, vN n4, vN n5] 57] (by kernel_rfl) (by first | rfl | kernel_rfl) rfl rfl hcl rfl

set_option maxRecDepth 100000 in
set_option maxHeartbeats 4000000 in
theorem specSurfaceOf_no (x : Int) (y : Int) (z : Int) (L : List A3) (hl : L.length ≤ 1048576) (hv : isHeapB x y z L = false) : Sound Try.prog 46 [.agg #[vI x, vI y, vI z, vS 0 L.length]] [some ⟨a3s L, 74, false, false⟩] (.tuple #[vI 0, .bool false]) [some ⟨a3s L, 74, false, false⟩] := by
  refine sound_intro (C := cx) Try.func46 rfl (by kernel_rfl) fun hcl => ?_
  refine cSeq ?_
  refine cReg ?_
  refine segEnd [1] (T1 := (mkT 11 [(1, vP 1 0)])) (H1 := [some ⟨a3s L, 74, false, false⟩, rB [vI x, vI y, vI z, vS 0 L.length] 40]) (by kernel_rfl) ?_
  refine kSeq ?_
  refine cSeq ?_
  refine cSeq ?_
  refine cReg ?_
  refine segH 1 (T1 := (mkT 11 [(1, vP 1 0), (4, .agg #[vI x, vI y, vI z, vS 0 L.length])])) (by kernel_rfl) ?_
  refine rCall (v := .bool false) (args := [.agg #[vI x, vI y, vI z, vS 0 L.length]]) (by kernel_rfl) rfl (by kernel_rfl) (Sound.lay0 [0] (l2HeapB_no x y z L (by first | assumption | omega | rfl | decide | exact HeapL.list _ _ _ _ | exact HeapL.nil _ _ _ | exact HeapL.all _ _ _ | (apply HeapL.lt64 <;> assumption) | (repeat' (first | assumption | apply or_lt64 | apply and_lt64 | apply andn_lt64 | apply pow_lt64 | (apply HeapL.lt64 <;> assumption)))) (by first | assumption | omega | rfl | decide | exact HeapL.list _ _ _ _ | exact HeapL.nil _ _ _ | exact HeapL.all _ _ _ | (apply HeapL.lt64 <;> assumption) | (repeat' (first | assumption | apply or_lt64 | apply and_lt64 | apply andn_lt64 | apply pow_lt64 | (apply HeapL.lt64 <;> assumption))))) ⟨rdF false (flatA3 _ _ _ _) rfl rfl, trivial⟩ rfl ⟨clF (flatA3 _ _ _ _), trivial⟩ rfl (by first | rfl | simp [mpV, mpA, mpS, mpP, renId, shift]) rfl) ?_
  refine segEndH [1, 6] (T1 := (mkT 11 [(1, vP 1 0), (6, .bool true)])) (by kernel_rfl) ?_
  refine kSeq ?_
  refine cTrue (by kernel_rfl) ?_
  refine cSeq ?_
  refine cReg ?_
  refine segEndH [2, 3] (T1 := (mkT 11 [(2, vI 0), (3, .bool false)])) (by kernel_rfl) ?_
  refine kSeq ?_
  refine cRet ?_
  refine kSeqR ?_
  -- end
  exact endQ (Or.inr rfl) (l := [vI 0, .bool false]) [rB [vI x, vI y, vI z, vS 0 L.length] 40] (by kernel_rfl) (by first | rfl | kernel_rfl) rfl rfl hcl rfl

set_option maxRecDepth 100000 in
set_option maxHeartbeats 4000000 in
theorem specSurfaceOf_yes (X : Nat) (Y : Nat) (Z : Nat) (L : List A3) (hs : Sides X Y Z) (hL : HeapL X Y Z L) : Sound Try.prog 46 [.agg #[vN X, vN Y, vN Z, vS 0 L.length]] [some ⟨a3s L, 74, false, false⟩] (.tuple #[vN (sum6 (cntF L 0 L.length) (cntF L 1 L.length) (cntF L 2 L.length) (cntF L 3 L.length) (cntF L 4 L.length) (cntF L 5 L.length) 6), .bool true]) [some ⟨a3s L, 74, false, false⟩] := by
  refine sound_intro (C := cx) Try.func46 rfl (by kernel_rfl) fun hcl => ?_
  have hz := hs.size
  have hx0 := hs.x0
  have hx4 := hs.x4
  have hy0 := hs.y0
  have hy4 := hs.y4
  have hz0 := hs.z0
  have hz4 := hs.z4
  have hlen := hL.len
  have hlt := hL.lt64 hs
  have hc0 := cntF_le L 0 L.length
  have hc1 := cntF_le L 1 L.length
  have hc2 := cntF_le L 2 L.length
  have hc3 := cntF_le L 3 L.length
  have hc4 := cntF_le L 4 L.length
  have hc5 := cntF_le L 5 L.length
  refine cSeq ?_
  refine cReg ?_
  refine segEnd [1] (T1 := (mkT 11 [(1, vP 1 0)])) (H1 := [some ⟨a3s L, 74, false, false⟩, rB [vN X, vN Y, vN Z, vS 0 L.length] 40]) (by kernel_rfl) ?_
  refine kSeq ?_
  refine cSeq ?_
  refine cSeq ?_
  refine cReg ?_
  refine segH 1 (T1 := (mkT 11 [(1, vP 1 0), (4, .agg #[vN X, vN Y, vN Z, vS 0 L.length])])) (by kernel_rfl) ?_
  refine rCall (v := .bool true) (args := [.agg #[vN X, vN Y, vN Z, vS 0 L.length]]) (by kernel_rfl) rfl (by kernel_rfl) (Sound.lay0 [0] (l2HeapB X Y Z L (by first | assumption | omega | rfl | decide | exact HeapL.list _ _ _ _ | exact HeapL.nil _ _ _ | exact HeapL.all _ _ _ | (apply HeapL.lt64 <;> assumption) | (repeat' (first | assumption | apply or_lt64 | apply and_lt64 | apply andn_lt64 | apply pow_lt64 | (apply HeapL.lt64 <;> assumption)))) (by first | assumption | omega | rfl | decide | exact HeapL.list _ _ _ _ | exact HeapL.nil _ _ _ | exact HeapL.all _ _ _ | (apply HeapL.lt64 <;> assumption) | (repeat' (first | assumption | apply or_lt64 | apply and_lt64 | apply andn_lt64 | apply pow_lt64 | (apply HeapL.lt64 <;> assumption))))) ⟨rdF false (flatA3 _ _ _ _) rfl rfl, trivial⟩ rfl ⟨clF (flatA3 _ _ _ _), trivial⟩ rfl (by first | rfl | simp [mpV, mpA, mpS, mpP, renId, shift]) rfl) ?_
  refine segEndH [1, 6] (T1 := (mkT 11 [(1, vP 1 0), (6, .bool false)])) (by kernel_rfl) ?_
  refine kSeq ?_
  refine cFalse (by kernel_rfl) ?_
  refine cSkip ?_
  refine kSeq ?_
  refine cSeq ?_
  refine cReg ?_
  refine seg 2 (T1 := (mkT 11 [(1, vP 1 0), (6, .bool false), (7, .agg #[vN X, vN Y, vN Z, vS 0 L.length]), (8, vS 2 0)])) (H1 := [some ⟨a3s L, 74, false, false⟩, rB [vN X, vN Y, vN Z, vS 0 L.length] 40, some ⟨[], 74, false, true⟩]) (by kernel_rfl) ?_
  refine rCall (v := .agg #[vN (cntF L 0 L.length), vN (cntF L 1 L.length), vN (cntF L 2 L.length), vN (cntF L 3 L.length), vN (cntF L 4 L.length), vN (cntF L 5 L.length)]) (args := [.agg #[vN X, vN Y, vN Z, vS 0 L.length], vS 2 0]) (by kernel_rfl) rfl (by kernel_rfl) (Sound.lay0 [0, 2] (l6BareB X Y Z L (by first | assumption | omega | rfl | decide | exact HeapL.list _ _ _ _ | exact HeapL.nil _ _ _ | exact HeapL.all _ _ _ | (apply HeapL.lt64 <;> assumption) | (repeat' (first | assumption | apply or_lt64 | apply and_lt64 | apply andn_lt64 | apply pow_lt64 | (apply HeapL.lt64 <;> assumption)))) (by first | assumption | omega | rfl | decide | exact HeapL.list _ _ _ _ | exact HeapL.nil _ _ _ | exact HeapL.all _ _ _ | (apply HeapL.lt64 <;> assumption) | (repeat' (first | assumption | apply or_lt64 | apply and_lt64 | apply andn_lt64 | apply pow_lt64 | (apply HeapL.lt64 <;> assumption))))) ⟨rdF false (flatA3 _ _ _ _) rfl rfl, ⟨rdX true rfl rfl, trivial⟩⟩ rfl ⟨clF (flatA3 _ _ _ _), ⟨clX rfl, trivial⟩⟩ rfl (by first | rfl | simp [mpV, mpA, mpS, mpP, renId, shift]) (by first | rfl | simp [mpV, mpA, mpS, mpP, renId, shift])) ?_
  refine rCall (v := vN (sum6 (cntF L 0 L.length) (cntF L 1 L.length) (cntF L 2 L.length) (cntF L 3 L.length) (cntF L 4 L.length) (cntF L 5 L.length) 6)) (args := [.agg #[vN (cntF L 0 L.length), vN (cntF L 1 L.length), vN (cntF L 2 L.length), vN (cntF L 3 L.length), vN (cntF L 4 L.length), vN (cntF L 5 L.length)]]) (by kernel_rfl) rfl (by kernel_rfl) (Sound.lay0 [] (l6Sum (cntF L 0 L.length) (cntF L 1 L.length) (cntF L 2 L.length) (cntF L 3 L.length) (cntF L 4 L.length) (cntF L 5 L.length) (by first | assumption | omega | rfl | decide | exact HeapL.list _ _ _ _ | exact HeapL.nil _ _ _ | exact HeapL.all _ _ _ | (apply HeapL.lt64 <;> assumption) | (repeat' (first | assumption | apply or_lt64 | apply and_lt64 | apply andn_lt64 | apply pow_lt64 | (apply HeapL.lt64 <;> assumption)))) (by first | assumption | omega | rfl | decide | exact HeapL.list _ _ _ _ | exact HeapL.nil _ _ _ | exact HeapL.all _ _ _ | (apply HeapL.lt64 <;> assumption) | (repeat' (first | assumption | apply or_lt64 | apply and_lt64 | apply andn_lt64 | apply pow_lt64 | (apply HeapL.lt64 <;> assumption)))) (by first | assumption | omega | rfl | decide | exact HeapL.list _ _ _ _ | exact HeapL.nil _ _ _ | exact HeapL.all _ _ _ | (apply HeapL.lt64 <;> assumption) | (repeat' (first | assumption | apply or_lt64 | apply and_lt64 | apply andn_lt64 | apply pow_lt64 | (apply HeapL.lt64 <;> assumption)))) (by first | assumption | omega | rfl | decide | exact HeapL.list _ _ _ _ | exact HeapL.nil _ _ _ | exact HeapL.all _ _ _ | (apply HeapL.lt64 <;> assumption) | (repeat' (first | assumption | apply or_lt64 | apply and_lt64 | apply andn_lt64 | apply pow_lt64 | (apply HeapL.lt64 <;> assumption)))) (by first | assumption | omega | rfl | decide | exact HeapL.list _ _ _ _ | exact HeapL.nil _ _ _ | exact HeapL.all _ _ _ | (apply HeapL.lt64 <;> assumption) | (repeat' (first | assumption | apply or_lt64 | apply and_lt64 | apply andn_lt64 | apply pow_lt64 | (apply HeapL.lt64 <;> assumption)))) (by first | assumption | omega | rfl | decide | exact HeapL.list _ _ _ _ | exact HeapL.nil _ _ _ | exact HeapL.all _ _ _ | (apply HeapL.lt64 <;> assumption) | (repeat' (first | assumption | apply or_lt64 | apply and_lt64 | apply andn_lt64 | apply pow_lt64 | (apply HeapL.lt64 <;> assumption))))) trivial rfl trivial rfl (by first | rfl | simp [mpV, mpA, mpS, mpP, renId, shift]) rfl) ?_
  refine segEnd [2, 3] (T1 := (mkT 11 [(2, vN (sum6 (cntF L 0 L.length) (cntF L 1 L.length) (cntF L 2 L.length) (cntF L 3 L.length) (cntF L 4 L.length) (cntF L 5 L.length) 6)), (3, .bool true)])) (H1 := [some ⟨a3s L, 74, false, false⟩, rB [vN X, vN Y, vN Z, vS 0 L.length] 40, some ⟨[], 74, false, true⟩]) (by kernel_rfl) ?_
  refine kSeq ?_
  refine cRet ?_
  -- end
  exact endQ (Or.inr rfl) (l := [vN (sum6 (cntF L 0 L.length) (cntF L 1 L.length) (cntF L 2 L.length) (cntF L 3 L.length) (cntF L 4 L.length) (cntF L 5 L.length) 6), .bool true]) [rB [vN X, vN Y, vN Z, vS 0 L.length] 40, some ⟨[], 74, false, true⟩] (by kernel_rfl) (by first | rfl | kernel_rfl) rfl rfl hcl rfl

set_option maxRecDepth 100000 in
set_option maxHeartbeats 4000000 in
theorem implSurfaceOf_no (x : Int) (y : Int) (z : Int) (L : List A3) (hl : L.length ≤ 1048576) (hv : isHeapB x y z L = false) : Sound Try.prog 47 [.agg #[vI x, vI y, vI z, vS 0 L.length]] [some ⟨a3s L, 74, false, false⟩] (.tuple #[vI 0, .bool false]) [some ⟨a3s L, 74, false, false⟩] := by
  refine sound_intro (C := cx) Try.func47 rfl (by kernel_rfl) fun hcl => ?_
  refine cSeq ?_
  refine cReg ?_
  refine segEnd [1] (T1 := (mkT 20 [(1, vP 1 0)])) (H1 := [some ⟨a3s L, 74, false, false⟩, rB [vI x, vI y, vI z, vS 0 L.length] 40]) (by kernel_rfl) ?_
  refine kSeq ?_
  refine cSeq ?_
  refine cSeq ?_
  refine cReg ?_
  refine segH 1 (T1 := (mkT 20 [(1, vP 1 0), (7, .agg #[vI x, vI y, vI z, vS 0 L.length])])) (by kernel_rfl) ?_
  refine rCall (v := .bool false) (args := [.agg #[vI x, vI y, vI z, vS 0 L.length]]) (by kernel_rfl) rfl (by kernel_rfl) (Sound.lay0 [0] (isHeapBt_no x y z L (by first | assumption | omega | rfl | decide | exact HeapL.list _ _ _ _ | exact HeapL.nil _ _ _ | exact HeapL.all _ _ _ | (apply HeapL.lt64 <;> assumption) | (repeat' (first | assumption | apply or_lt64 | apply and_lt64 | apply andn_lt64 | apply pow_lt64 | (apply HeapL.lt64 <;> assumption)))) (by first | assumption | omega | rfl | decide | exact HeapL.list _ _ _ _ | exact HeapL.nil _ _ _ | exact HeapL.all _ _ _ | (apply HeapL.lt64 <;> assumption) | (repeat' (first | assumption | apply or_lt64 | apply and_lt64 | apply andn_lt64 | apply pow_lt64 | (apply HeapL.lt64 <;> assumption))))) ⟨rdF false (flatA3 _ _ _ _) rfl rfl, trivial⟩ rfl ⟨clF (flatA3 _ _ _ _), trivial⟩ rfl (by first | rfl | simp [mpV, mpA, mpS, mpP, renId, shift]) rfl) ?_
  refine segEndH [1, 9] (T1 := (mkT 20 [(1, vP 1 0), (9, .bool true)])) (by kernel_rfl) ?_
  refine kSeq ?_
  refine cTrue (by kernel_rfl) ?_
  refine cSeq ?_
  refine cReg ?_
  refine segEndH [2, 3] (T1 := (mkT 20 [(2, vI 0), (3, .bool false)])) (by kernel_rfl) ?_
  refine kSeq ?_
  refine cRet ?_
  refine kSeqR ?_
  -- end
  exact endQ (Or.inr rfl) (l := [vI 0, .bool false]) [rB [vI x, vI y, vI z, vS 0 L.length] 40] (by kernel_rfl) (by first | rfl | kernel_rfl) rfl rfl hcl rfl

set_option maxRecDepth 100000 in
set_option maxHeartbeats 4000000 in
theorem implSurfaceOf_yes (X : Nat) (Y : Nat) (Z : Nat) (L : List A3) (hs : Sides X Y Z) (hL : HeapL X Y Z L) : Sound Try.prog 47 [.agg #[vN X, vN Y, vN Z, vS 0 L.length]] [some ⟨a3s L, 74, false, false⟩] (.tuple #[vN (sum6 (cntF L 0 L.length) (cntF L 1 L.length) (cntF L 2 L.length) (cntF L 3 L.length) (cntF L 4 L.length) (cntF L 5 L.length) 6), .bool true]) [some ⟨a3s L, 74, false, false⟩] := by
  refine sound_intro (C := cx) Try.func47 rfl (by kernel_rfl) fun hcl => ?_
  have hz := hs.size
  have hx0 := hs.x0
  have hx4 := hs.x4
  have hy0 := hs.y0
  have hy4 := hs.y4
  have hz0 := hs.z0
  have hz4 := hs.z4
  have hlen := hL.len
  have hlt := hL.lt64 hs
  have hc0 := cntF_le L 0 L.length
  have hc1 := cntF_le L 1 L.length
  have hc2 := cntF_le L 2 L.length
  have hc3 := cntF_le L 3 L.length
  have hc4 := cntF_le L 4 L.length
  have hc5 := cntF_le L 5 L.length
  refine cSeq ?_
  refine cReg ?_
  refine segEnd [1] (T1 := (mkT 20 [(1, vP 1 0)])) (H1 := [some ⟨a3s L, 74, false, false⟩, rB [vN X, vN Y, vN Z, vS 0 L.length] 40]) (by kernel_rfl) ?_
  refine kSeq ?_
  refine cSeq ?_
  refine cSeq ?_
  refine cReg ?_
  refine segH 1 (T1 := (mkT 20 [(1, vP 1 0), (7, .agg #[vN X, vN Y, vN Z, vS 0 L.length])])) (by kernel_rfl) ?_
  refine rCall (v := .bool true) (args := [.agg #[vN X, vN Y, vN Z, vS 0 L.length]]) (by kernel_rfl) rfl (by kernel_rfl) (Sound.lay0 [0] (isHeapBt X Y Z L (by first | assumption | omega | rfl | decide | exact HeapL.list _ _ _ _ | exact HeapL.nil _ _ _ | exact HeapL.all _ _ _ | (apply HeapL.lt64 <;> assumption) | (repeat' (first | assumption | apply or_lt64 | apply and_lt64 | apply andn_lt64 | apply pow_lt64 | (apply HeapL.lt64 <;> assumption)))) (by first | assumption | omega | rfl | decide | exact HeapL.list _ _ _ _ | exact HeapL.nil _ _ _ | exact HeapL.all _ _ _ | (apply HeapL.lt64 <;> assumption) | (repeat' (first | assumption | apply or_lt64 | apply and_lt64 | apply andn_lt64 | apply pow_lt64 | (apply HeapL.lt64 <;> assumption))))) ⟨rdF false (flatA3 _ _ _ _) rfl rfl, trivial⟩ rfl ⟨clF (flatA3 _ _ _ _), trivial⟩ rfl (by first | rfl | simp [mpV, mpA, mpS, mpP, renId, shift]) rfl) ?_
  refine segEndH [1, 9] (T1 := (mkT 20 [(1, vP 1 0), (9, .bool false)])) (by kernel_rfl) ?_
  refine kSeq ?_
  refine cFalse (by kernel_rfl) ?_
  refine cSkip ?_
  refine kSeq ?_
  refine cSeq ?_
  refine cReg ?_
  refine segEndH [1, 4] (T1 := (mkT 20 [(1, vP 1 0), (4, vI 0)])) (by kernel_rfl) ?_
  refine kSeq ?_
  refine cSeq ?_
  refine cSeq ?_
  refine cReg ?_
  refine segH 1 (T1 := (mkT 20 [(1, vP 1 0), (4, vI 0), (10, .agg #[vN X, vN Y, vN Z, vS 0 L.length])])) (by kernel_rfl) ?_
  refine rCall (v := .agg #[vN (cntF L 0 L.length), vN (cntF L 1 L.length), vN (cntF L 2 L.length), vN (cntF L 3 L.length), vN (cntF L 4 L.length), vN (cntF L 5 L.length)]) (args := [.agg #[vN X, vN Y, vN Z, vS 0 L.length]]) (by kernel_rfl) rfl (by kernel_rfl) (Sound.lay0 [0] (bareFacesB X Y Z L (by first | assumption | omega | rfl | decide | exact HeapL.list _ _ _ _ | exact HeapL.nil _ _ _ | exact HeapL.all _ _ _ | (apply HeapL.lt64 <;> assumption) | (repeat' (first | assumption | apply or_lt64 | apply and_lt64 | apply andn_lt64 | apply pow_lt64 | (apply HeapL.lt64 <;> assumption)))) (by first | assumption | omega | rfl | decide | exact HeapL.list _ _ _ _ | exact HeapL.nil _ _ _ | exact HeapL.all _ _ _ | (apply HeapL.lt64 <;> assumption) | (repeat' (first | assumption | apply or_lt64 | apply and_lt64 | apply andn_lt64 | apply pow_lt64 | (apply HeapL.lt64 <;> assumption))))) ⟨rdF false (flatA3 _ _ _ _) rfl rfl, trivial⟩ rfl ⟨clF (flatA3 _ _ _ _), trivial⟩ rfl (by first | rfl | simp [mpV, mpA, mpS, mpP, renId, shift]) (by first | rfl | simp [mpV, mpA, mpS, mpP, renId, shift])) ?_
  refine segEndH [4, 11, 12] (T1 := (mkT 20 [(4, vI 0), (11, .agg #[vN (cntF L 0 L.length), vN (cntF L 1 L.length), vN (cntF L 2 L.length), vN (cntF L 3 L.length), vN (cntF L 4 L.length), vN (cntF L 5 L.length)]), (12, vI 0)])) (by kernel_rfl) ?_
  refine kSeq ?_
  refine cBlk ?_
  -- loop
  refine cLoop (fun mm T H => ∃ k : Nat, ∃ s : Nat, (k ≤ 6) ∧ (s = sum6 (cntF L 0 L.length) (cntF L 1 L.length) (cntF L 2 L.length) (cntF L 3 L.length) (cntF L 4 L.length) (cntF L 5 L.length) k) ∧ (s ≤ 64 * k) ∧ mm = 6 - k ∧ T = (mkT 20 [(4, vN s), (11, .agg #[vN (cntF L 0 L.length), vN (cntF L 1 L.length), vN (cntF L 2 L.length), vN (cntF L 3 L.length), vN (cntF L 4 L.length), vN (cntF L 5 L.length)]), (12, vN k)]) ∧ H = [some ⟨a3s L, 74, false, false⟩, rB [vN X, vN Y, vN Z, vS 0 L.length] 40]) (6 - 0) (mkT 20 [(4, vI 0), (11, .agg #[vN (cntF L 0 L.length), vN (cntF L 1 L.length), vN (cntF L 2 L.length), vN (cntF L 3 L.length), vN (cntF L 4 L.length), vN (cntF L 5 L.length)]), (12, vI 0)]) [some ⟨a3s L, 74, false, false⟩, rB [vN X, vN Y, vN Z, vS 0 L.length] 40] (wkSame [4, 11, 12] (by kernel_rfl)) ?_ ?_
  · exact ⟨0, 0, (Nat.zero_le _), (rfl), (by omega), rfl, rfl, rfl⟩
  · rintro _ _ _ ⟨k, s, hk, hs1, hb, rfl, rfl, rfl⟩
    have hcase : k = 0 ∨ k = 1 ∨ k = 2 ∨ k = 3 ∨ k = 4 ∨ k = 5 ∨ k = 6 := by omega
    rcases hcase with rfl | rfl | rfl | rfl | rfl | rfl | rfl
    ·
      refine cSeq ?_
      refine cReg ?_
      refine segEndH [4, 11, 12, 13] (T1 := (mkT 20 [(4, vN s), (11, .agg #[vN (cntF L 0 L.length), vN (cntF L 1 L.length), vN (cntF L 2 L.length), vN (cntF L 3 L.length), vN (cntF L 4 L.length), vN (cntF L 5 L.length)]), (12, vI 0), (13, .bool true)])) (by kernel_rfl) ?_
      refine kSeq ?_
      refine cSeq ?_
      refine cTrue (by kernel_rfl) ?_
      refine cSkip ?_
      refine kSeq ?_
      refine cSeq ?_
      refine cBlk ?_
      refine cSeq ?_
      refine cReg ?_
      refine segEndH [4, 6, 11, 12] (T1 := (mkT 20 [(4, vN s), (6, vN (cntF L 0 L.length)), (11, .agg #[vN (cntF L 0 L.length), vN (cntF L 1 L.length), vN (cntF L 2 L.length), vN (cntF L 3 L.length), vN (cntF L 4 L.length), vN (cntF L 5 L.length)]), (12, vI 0)])) (by kernel_rfl) ?_
      refine kSeq ?_
      refine cReg ?_
      refine segH 2 (T1 := (mkT 20 [(4, vN s), (6, vN (cntF L 0 L.length)), (11, .agg #[vN (cntF L 0 L.length), vN (cntF L 1 L.length), vN (cntF L 2 L.length), vN (cntF L 3 L.length), vN (cntF L 4 L.length), vN (cntF L 5 L.length)]), (12, vI 0), (15, vN s), (16, vN (cntF L 0 L.length))])) (by kernel_rfl) ?_
      refine rOp (v := vN (s + (cntF L 0 L.length))) (by kernel_rfl) (eAdd (k := .i64) (a := ((s : Nat) : Int)) (b := ((cntF L 0 L.length : Nat) : Int)) (c := ((s + (cntF L 0 L.length) : Nat) : Int)) (by kernel_rfl) (by kernel_rfl) (wr64 (by omega) (by omega) (by omega))) ?_
      refine segEndH [4, 11, 12] (T1 := (mkT 20 [(4, vN (s + (cntF L 0 L.length))), (11, .agg #[vN (cntF L 0 L.length), vN (cntF L 1 L.length), vN (cntF L 2 L.length), vN (cntF L 3 L.length), vN (cntF L 4 L.length), vN (cntF L 5 L.length)]), (12, vI 0)])) (by kernel_rfl) ?_
      refine kBlk ?_
      refine kSeq ?_
      refine cReg ?_
      refine segEndH [4, 11, 12] (T1 := (mkT 20 [(4, vN (s + (cntF L 0 L.length))), (11, .agg #[vN (cntF L 0 L.length), vN (cntF L 1 L.length), vN (cntF L 2 L.length), vN (cntF L 3 L.length), vN (cntF L 4 L.length), vN (cntF L 5 L.length)]), (12, vI 1)])) (by kernel_rfl) ?_
      exact kLoop (6 - 1) (mkT 20 [(4, vN (s + (cntF L 0 L.length))), (11, .agg #[vN (cntF L 0 L.length), vN (cntF L 1 L.length), vN (cntF L 2 L.length), vN (cntF L 3 L.length), vN (cntF L 4 L.length), vN (cntF L 5 L.length)]), (12, vI 1)]) [some ⟨a3s L, 74, false, false⟩, rB [vN X, vN Y, vN Z, vS 0 L.length] 40] (by omega) (wkSame [4, 11, 12] (by kernel_rfl)) ⟨1, (s + (cntF L 0 L.length)), (by omega), (by rw [hs1]; rfl), (by omega), rfl, rfl, rfl⟩
    ·
      refine cSeq ?_
      refine cReg ?_
      refine segEndH [4, 11, 12, 13] (T1 := (mkT 20 [(4, vN s), (11, .agg #[vN (cntF L 0 L.length), vN (cntF L 1 L.length), vN (cntF L 2 L.length), vN (cntF L 3 L.length), vN (cntF L 4 L.length), vN (cntF L 5 L.length)]), (12, vI 1), (13, .bool true)])) (by kernel_rfl) ?_
      refine kSeq ?_
      refine cSeq ?_
      refine cTrue (by kernel_rfl) ?_
      refine cSkip ?_
      refine kSeq ?_
      refine cSeq ?_
      refine cBlk ?_
      refine cSeq ?_
      refine cReg ?_
      refine segEndH [4, 6, 11, 12] (T1 := (mkT 20 [(4, vN s), (6, vN (cntF L 1 L.length)), (11, .agg #[vN (cntF L 0 L.length), vN (cntF L 1 L.length), vN (cntF L 2 L.length), vN (cntF L 3 L.length), vN (cntF L 4 L.length), vN (cntF L 5 L.length)]), (12, vI 1)])) (by kernel_rfl) ?_
      refine kSeq ?_
      refine cReg ?_
      refine segH 2 (T1 := (mkT 20 [(4, vN s), (6, vN (cntF L 1 L.length)), (11, .agg #[vN (cntF L 0 L.length), vN (cntF L 1 L.length), vN (cntF L 2 L.length), vN (cntF L 3 L.length), vN (cntF L 4 L.length), vN (cntF L 5 L.length)]), (12, vI 1), (15, vN s), (16, vN (cntF L 1 L.length))])) (by kernel_rfl) ?_
      refine rOp (v := vN (s + (cntF L 1 L.length))) (by kernel_rfl) (eAdd (k := .i64) (a := ((s : Nat) : Int)) (b := ((cntF L 1 L.length : Nat) : Int)) (c := ((s + (cntF L 1 L.length) : Nat) : Int)) (by kernel_rfl) (by kernel_rfl) (wr64 (by omega) (by omega) (by omega))) ?_
      refine segEndH [4, 11, 12] (T1 := (mkT 20 [(4, vN (s + (cntF L 1 L.length))), (11, .agg #[vN (cntF L 0 L.length), vN (cntF L 1 L.length), vN (cntF L 2 L.length), vN (cntF L 3 L.length), vN (cntF L 4 L.length), vN (cntF L 5 L.length)]), (12, vI 1)])) (by kernel_rfl) ?_
      refine kBlk ?_
      refine kSeq ?_
      refine cReg ?_
      refine segEndH [4, 11, 12] (T1 := (mkT 20 [(4, vN (s + (cntF L 1 L.length))), (11, .agg #[vN (cntF L 0 L.length), vN (cntF L 1 L.length), vN (cntF L 2 L.length), vN (cntF L 3 L.length), vN (cntF L 4 L.length), vN (cntF L 5 L.length)]), (12, vI 2)])) (by kernel_rfl) ?_
      exact kLoop (6 - 2) (mkT 20 [(4, vN (s + (cntF L 1 L.length))), (11, .agg #[vN (cntF L 0 L.length), vN (cntF L 1 L.length), vN (cntF L 2 L.length), vN (cntF L 3 L.length), vN (cntF L 4 L.length), vN (cntF L 5 L.length)]), (12, vI 2)]) [some ⟨a3s L, 74, false, false⟩, rB [vN X, vN Y, vN Z, vS 0 L.length] 40] (by omega) (wkSame [4, 11, 12] (by kernel_rfl)) ⟨2, (s + (cntF L 1 L.length)), (by omega), (by rw [hs1]; rfl), (by omega), rfl, rfl, rfl⟩
    ·
      refine cSeq ?_
      refine cReg ?_
      refine segEndH [4, 11, 12, 13] (T1 := (mkT 20 [(4, vN s), (11, .agg #[vN (cntF L 0 L.length), vN (cntF L 1 L.length), vN (cntF L 2 L.length), vN (cntF L 3 L.length), vN (cntF L 4 L.length), vN (cntF L 5 L.length)]), (12, vI 2), (13, .bool true)])) (by kernel_rfl) ?_
      refine kSeq ?_
      refine cSeq ?_
      refine cTrue (by kernel_rfl) ?_
      refine cSkip ?_
      refine kSeq ?_
      refine cSeq ?_
      refine cBlk ?_
      refine cSeq ?_
      refine cReg ?_
      refine segEndH [4, 6, 11, 12] (T1 := (mkT 20 [(4, vN s), (6, vN (cntF L 2 L.length)), (11, .agg #[vN (cntF L 0 L.length), vN (cntF L 1 L.length), vN (cntF L 2 L.length), vN (cntF L 3 L.length), vN (cntF L 4 L.length), vN (cntF L 5 L.length)]), (12, vI 2)])) (by kernel_rfl) ?_
      refine kSeq ?_
      refine cReg ?_
      refine segH 2 (T1 := (mkT 20 [(4, vN s), (6, vN (cntF L 2 L.length)), (11, .agg #[vN (cntF L 0 L.length), vN (cntF L 1 L.length), vN (cntF L 2 L.length), vN (cntF L 3 L.length), vN (cntF L 4 L.length), vN (cntF L 5 L.length)]), (12, vI 2), (15, vN s), (16, vN (cntF L 2 L.length))])) (by kernel_rfl) ?_
      refine rOp (v := vN (s + (cntF L 2 L.length))) (by kernel_rfl) (eAdd (k := .i64) (a := ((s : Nat) : Int)) (b := ((cntF L 2 L.length : Nat) : Int)) (c := ((s + (cntF L 2 L.length) : Nat) : Int)) (by kernel_rfl) (by kernel_rfl) (wr64 (by omega) (by omega) (by omega))) ?_
      refine segEndH [4, 11, 12] (T1 := (mkT 20 [(4, vN (s + (cntF L 2 L.length))), (11, .agg #[vN (cntF L 0 L.length), vN (cntF L 1 L.length), vN (cntF L 2 L.length), vN (cntF L 3 L.length), vN (cntF L 4 L.length), vN (cntF L 5 L.length)]), (12, vI 2)])) (by kernel_rfl) ?_
      refine kBlk ?_
      refine kSeq ?_
      refine cReg ?_
      refine segEndH [4, 11, 12] (T1 := (mkT 20 [(4, vN (s + (cntF L 2 L.length))), (11, .agg #[vN (cntF L 0 L.length), vN (cntF L 1 L.length), vN (cntF L 2 L.length), vN (cntF L 3 L.length), vN (cntF L 4 L.length), vN (cntF L 5 L.length)]), (12, vI 3)])) (by kernel_rfl) ?_
      exact kLoop (6 - 3) (mkT 20 [(4, vN (s + (cntF L 2 L.length))), (11, .agg #[vN (cntF L 0 L.length), vN (cntF L 1 L.length), vN (cntF L 2 L.length), vN (cntF L 3 L.length), vN (cntF L 4 L.length), vN (cntF L 5 L.length)]), (12, vI 3)]) [some ⟨a3s L, 74, false, false⟩, rB [vN X, vN Y, vN Z, vS 0 L.length] 40] (by omega) (wkSame [4, 11, 12] (by kernel_rfl)) ⟨3, (s + (cntF L 2 L.length)), (by omega), (by rw [hs1]; rfl), (by omega), rfl, rfl, rfl⟩
    ·
      refine cSeq ?_
      refine cReg ?_
      refine segEndH [4, 11, 12, 13] (T1 := (mkT 20 [(4, vN s), (11, .agg #[vN (cntF L 0 L.length), vN (cntF L 1 L.length), vN (cntF L 2 L.length), vN (cntF L 3 L.length), vN (cntF L 4 L.length), vN (cntF L 5 L.length)]), (12, vI 3), (13, .bool true)])) (by kernel_rfl) ?_
      refine kSeq ?_
      refine cSeq ?_
      refine cTrue (by kernel_rfl) ?_
      refine cSkip ?_
      refine kSeq ?_
      refine cSeq ?_
      refine cBlk ?_
      refine cSeq ?_
      refine cReg ?_
      refine segEndH [4, 6, 11, 12] (T1 := (mkT 20 [(4, vN s), (6, vN (cntF L 3 L.length)), (11, .agg #[vN (cntF L 0 L.length), vN (cntF L 1 L.length), vN (cntF L 2 L.length), vN (cntF L 3 L.length), vN (cntF L 4 L.length), vN (cntF L 5 L.length)]), (12, vI 3)])) (by kernel_rfl) ?_
      refine kSeq ?_
      refine cReg ?_
      refine segH 2 (T1 := (mkT 20 [(4, vN s), (6, vN (cntF L 3 L.length)), (11, .agg #[vN (cntF L 0 L.length), vN (cntF L 1 L.length), vN (cntF L 2 L.length), vN (cntF L 3 L.length), vN (cntF L 4 L.length), vN (cntF L 5 L.length)]), (12, vI 3), (15, vN s), (16, vN (cntF L 3 L.length))])) (by kernel_rfl) ?_
      refine rOp (v := vN (s + (cntF L 3 L.length))) (by kernel_rfl) (eAdd (k := .i64) (a := ((s : Nat) : Int)) (b := ((cntF L 3 L.length : Nat) : Int)) (c := ((s + (cntF L 3 L.length) : Nat) : Int)) (by kernel_rfl) (by kernel_rfl) (wr64 (by omega) (by omega) (by omega))) ?_
      refine segEndH [4, 11, 12] (T1 := (mkT 20 [(4, vN (s + (cntF L 3 L.length))), (11, .agg #[vN (cntF L 0 L.length), vN (cntF L 1 L.length), vN (cntF L 2 L.length), vN (cntF L 3 L.length), vN (cntF L 4 L.length), vN (cntF L 5 L.length)]), (12, vI 3)])) (by kernel_rfl) ?_
      refine kBlk ?_
      refine kSeq ?_
      refine cReg ?_
      refine segEndH [4, 11, 12] (T1 := (mkT 20 [(4, vN (s + (cntF L 3 L.length))), (11, .agg #[vN (cntF L 0 L.length), vN (cntF L 1 L.length), vN (cntF L 2 L.length), vN (cntF L 3 L.length), vN (cntF L 4 L.length), vN (cntF L 5 L.length)]), (12, vI 4)])) (by kernel_rfl) ?_
      exact kLoop (6 - 4) (mkT 20 [(4, vN (s + (cntF L 3 L.length))), (11, .agg #[vN (cntF L 0 L.length), vN (cntF L 1 L.length), vN (cntF L 2 L.length), vN (cntF L 3 L.length), vN (cntF L 4 L.length), vN (cntF L 5 L.length)]), (12, vI 4)]) [some ⟨a3s L, 74, false, false⟩, rB [vN X, vN Y, vN Z, vS 0 L.length] 40] (by omega) (wkSame [4, 11, 12] (by kernel_rfl)) ⟨4, (s + (cntF L 3 L.length)), (by omega), (by rw [hs1]; rfl), (by omega), rfl, rfl, rfl⟩
    ·
      refine cSeq ?_
      refine cReg ?_
      refine segEndH [4, 11, 12, 13] (T1 := (mkT 20 [(4, vN s), (11, .agg #[vN (cntF L 0 L.length), vN (cntF L 1 L.length), vN (cntF L 2 L.length), vN (cntF L 3 L.length), vN (cntF L 4 L.length), vN (cntF L 5 L.length)]), (12, vI 4), (13, .bool true)])) (by kernel_rfl) ?_
      refine kSeq ?_
      refine cSeq ?_
      refine cTrue (by kernel_rfl) ?_
      refine cSkip ?_
      refine kSeq ?_
      refine cSeq ?_
      refine cBlk ?_
      refine cSeq ?_
      refine cReg ?_
      refine segEndH [4, 6, 11, 12] (T1 := (mkT 20 [(4, vN s), (6, vN (cntF L 4 L.length)), (11, .agg #[vN (cntF L 0 L.length), vN (cntF L 1 L.length), vN (cntF L 2 L.length), vN (cntF L 3 L.length), vN (cntF L 4 L.length), vN (cntF L 5 L.length)]), (12, vI 4)])) (by kernel_rfl) ?_
      refine kSeq ?_
      refine cReg ?_
      refine segH 2 (T1 := (mkT 20 [(4, vN s), (6, vN (cntF L 4 L.length)), (11, .agg #[vN (cntF L 0 L.length), vN (cntF L 1 L.length), vN (cntF L 2 L.length), vN (cntF L 3 L.length), vN (cntF L 4 L.length), vN (cntF L 5 L.length)]), (12, vI 4), (15, vN s), (16, vN (cntF L 4 L.length))])) (by kernel_rfl) ?_
      refine rOp (v := vN (s + (cntF L 4 L.length))) (by kernel_rfl) (eAdd (k := .i64) (a := ((s : Nat) : Int)) (b := ((cntF L 4 L.length : Nat) : Int)) (c := ((s + (cntF L 4 L.length) : Nat) : Int)) (by kernel_rfl) (by kernel_rfl) (wr64 (by omega) (by omega) (by omega))) ?_
      refine segEndH [4, 11, 12] (T1 := (mkT 20 [(4, vN (s + (cntF L 4 L.length))), (11, .agg #[vN (cntF L 0 L.length), vN (cntF L 1 L.length), vN (cntF L 2 L.length), vN (cntF L 3 L.length), vN (cntF L 4 L.length), vN (cntF L 5 L.length)]), (12, vI 4)])) (by kernel_rfl) ?_
      refine kBlk ?_
      refine kSeq ?_
      refine cReg ?_
      refine segEndH [4, 11, 12] (T1 := (mkT 20 [(4, vN (s + (cntF L 4 L.length))), (11, .agg #[vN (cntF L 0 L.length), vN (cntF L 1 L.length), vN (cntF L 2 L.length), vN (cntF L 3 L.length), vN (cntF L 4 L.length), vN (cntF L 5 L.length)]), (12, vI 5)])) (by kernel_rfl) ?_
      exact kLoop (6 - 5) (mkT 20 [(4, vN (s + (cntF L 4 L.length))), (11, .agg #[vN (cntF L 0 L.length), vN (cntF L 1 L.length), vN (cntF L 2 L.length), vN (cntF L 3 L.length), vN (cntF L 4 L.length), vN (cntF L 5 L.length)]), (12, vI 5)]) [some ⟨a3s L, 74, false, false⟩, rB [vN X, vN Y, vN Z, vS 0 L.length] 40] (by omega) (wkSame [4, 11, 12] (by kernel_rfl)) ⟨5, (s + (cntF L 4 L.length)), (by omega), (by rw [hs1]; rfl), (by omega), rfl, rfl, rfl⟩
    ·
      refine cSeq ?_
      refine cReg ?_
      refine segEndH [4, 11, 12, 13] (T1 := (mkT 20 [(4, vN s), (11, .agg #[vN (cntF L 0 L.length), vN (cntF L 1 L.length), vN (cntF L 2 L.length), vN (cntF L 3 L.length), vN (cntF L 4 L.length), vN (cntF L 5 L.length)]), (12, vI 5), (13, .bool true)])) (by kernel_rfl) ?_
      refine kSeq ?_
      refine cSeq ?_
      refine cTrue (by kernel_rfl) ?_
      refine cSkip ?_
      refine kSeq ?_
      refine cSeq ?_
      refine cBlk ?_
      refine cSeq ?_
      refine cReg ?_
      refine segEndH [4, 6, 11, 12] (T1 := (mkT 20 [(4, vN s), (6, vN (cntF L 5 L.length)), (11, .agg #[vN (cntF L 0 L.length), vN (cntF L 1 L.length), vN (cntF L 2 L.length), vN (cntF L 3 L.length), vN (cntF L 4 L.length), vN (cntF L 5 L.length)]), (12, vI 5)])) (by kernel_rfl) ?_
      refine kSeq ?_
      refine cReg ?_
      refine segH 2 (T1 := (mkT 20 [(4, vN s), (6, vN (cntF L 5 L.length)), (11, .agg #[vN (cntF L 0 L.length), vN (cntF L 1 L.length), vN (cntF L 2 L.length), vN (cntF L 3 L.length), vN (cntF L 4 L.length), vN (cntF L 5 L.length)]), (12, vI 5), (15, vN s), (16, vN (cntF L 5 L.length))])) (by kernel_rfl) ?_
      refine rOp (v := vN (s + (cntF L 5 L.length))) (by kernel_rfl) (eAdd (k := .i64) (a := ((s : Nat) : Int)) (b := ((cntF L 5 L.length : Nat) : Int)) (c := ((s + (cntF L 5 L.length) : Nat) : Int)) (by kernel_rfl) (by kernel_rfl) (wr64 (by omega) (by omega) (by omega))) ?_
      refine segEndH [4, 11, 12] (T1 := (mkT 20 [(4, vN (s + (cntF L 5 L.length))), (11, .agg #[vN (cntF L 0 L.length), vN (cntF L 1 L.length), vN (cntF L 2 L.length), vN (cntF L 3 L.length), vN (cntF L 4 L.length), vN (cntF L 5 L.length)]), (12, vI 5)])) (by kernel_rfl) ?_
      refine kBlk ?_
      refine kSeq ?_
      refine cReg ?_
      refine segEndH [4, 11, 12] (T1 := (mkT 20 [(4, vN (s + (cntF L 5 L.length))), (11, .agg #[vN (cntF L 0 L.length), vN (cntF L 1 L.length), vN (cntF L 2 L.length), vN (cntF L 3 L.length), vN (cntF L 4 L.length), vN (cntF L 5 L.length)]), (12, vI 6)])) (by kernel_rfl) ?_
      exact kLoop (6 - 6) (mkT 20 [(4, vN (s + (cntF L 5 L.length))), (11, .agg #[vN (cntF L 0 L.length), vN (cntF L 1 L.length), vN (cntF L 2 L.length), vN (cntF L 3 L.length), vN (cntF L 4 L.length), vN (cntF L 5 L.length)]), (12, vI 6)]) [some ⟨a3s L, 74, false, false⟩, rB [vN X, vN Y, vN Z, vS 0 L.length] 40] (by omega) (wkSame [4, 11, 12] (by kernel_rfl)) ⟨6, (s + (cntF L 5 L.length)), (by omega), (by rw [hs1]; rfl), (by omega), rfl, rfl, rfl⟩
    ·
      refine cSeq ?_
      refine cReg ?_
      refine segEndH [4, 11, 12, 13] (T1 := (mkT 20 [(4, vN s), (11, .agg #[vN (cntF L 0 L.length), vN (cntF L 1 L.length), vN (cntF L 2 L.length), vN (cntF L 3 L.length), vN (cntF L 4 L.length), vN (cntF L 5 L.length)]), (12, vI 6), (13, .bool false)])) (by kernel_rfl) ?_
      refine kSeq ?_
      refine cSeq ?_
      refine cFalse (by kernel_rfl) ?_
      refine cExit ?_
      refine kSeqE ?_
      refine kLoopE ?_
      refine kBlkHit ?_
      refine kSeq ?_
      refine cSeq ?_
      refine cReg ?_
      refine segEndH [2, 3] (T1 := (mkT 20 [(2, vN s), (3, .bool true)])) (by kernel_rfl) ?_
      refine kSeq ?_
      refine cRet ?_
      -- end
      have he0 : (s : Nat) = sum6 (cntF L 0 L.length) (cntF L 1 L.length) (cntF L 2 L.length) (cntF L 3 L.length) (cntF L 4 L.length) (cntF L 5 L.length) 6 := by first | exact hs1 | omega
      refine endCast (v1 := .tuple #[vN s, .bool true]) (H1 := [some ⟨a3s L, 74, false, false⟩]) (by first | rfl | ((try rw [← he0]); done) | (simp only [← he0]; done)) (by first | rfl | ((try rw [← he0]); done) | (simp only [← he0]; done)) ?_
      exact endQ (Or.inr rfl) (l := [vN s, .bool true]) [rB [vN X, vN Y, vN Z, vS 0 L.length] 40] (by kernel_rfl) (by first | rfl | kernel_rfl) rfl rfl hcl rfl
end Go.Proofs.Ytbheeobnghlckaa
