/- Walks. No condition. -/
import Derived.Test.YtenkiofddpjidaaAmG2
set_option linter.unusedVariables false
set_option linter.unusedSimpArgs false
namespace Go.Proofs.Ytenkiofddpjidaa
open Go.Am Go.RowKit
set_option maxRecDepth 100000 in
set_option maxHeartbeats 4000000 in
theorem eqA3_same (a b c : Int) : Sound Try.prog 66 [.agg #[.int .i64 a, .int .i64 b, .int .i64 c], .agg #[.int .i64 a, .int .i64 b, .int .i64 c]] [] (.bool true) [] := by
  refine sound_intro (C := cx) Try.func66 rfl (by kernel_rfl) fun hcl => ?_
  refine cSeq ?_
  refine cReg ?_
  refine segEnd [0, 1, 2, 3, 4] (T1 := (mkT 17 [(0, .agg #[.int .i64 a, .int .i64 b, .int .i64 c]), (1, .agg #[.int .i64 a, .int .i64 b, .int .i64 c]), (2, .pointer (some ⟨0, 0, none⟩)), (3, .pointer (some ⟨1, 0, none⟩)), (4, .bool false)])) (H1 := [some ⟨[.int .i64 a, .int .i64 b, .int .i64 c], 25, true, true⟩, some ⟨[.int .i64 a, .int .i64 b, .int .i64 c], 25, true, true⟩]) (by kernel_rfl) ?_
  refine kSeq ?_
  refine cSeq ?_
  refine cSeq ?_
  refine cReg ?_
  refine segEnd [0, 1, 2, 3, 4, 5] (T1 := (mkT 17 [(0, .agg #[.int .i64 a, .int .i64 b, .int .i64 c]), (1, .agg #[.int .i64 a, .int .i64 b, .int .i64 c]), (2, .pointer (some ⟨0, 0, none⟩)), (3, .pointer (some ⟨1, 0, none⟩)), (4, .bool false), (5, .int .i64 0)])) (H1 := [some ⟨[.int .i64 a, .int .i64 b, .int .i64 c], 25, true, true⟩, some ⟨[.int .i64 a, .int .i64 b, .int .i64 c], 25, true, true⟩]) (by kernel_rfl) ?_
  refine kSeq ?_
  refine cBlk ?_
  -- loop
  refine cLoop (fun mm T H => ∃ i : Nat, (i ≤ 3) ∧ mm = 3 - i ∧ T = (mkT 17 [(2, .pointer (some ⟨0, 0, none⟩)), (3, .pointer (some ⟨1, 0, none⟩)), (4, .bool false), (5, .int .i64 ((i : Nat) : Int))]) ∧ H = [some ⟨[.int .i64 a, .int .i64 b, .int .i64 c], 25, true, true⟩, some ⟨[.int .i64 a, .int .i64 b, .int .i64 c], 25, true, true⟩]) (3 - 0) (mkT 17 [(2, .pointer (some ⟨0, 0, none⟩)), (3, .pointer (some ⟨1, 0, none⟩)), (4, .bool false), (5, .int .i64 0)]) [some ⟨[.int .i64 a, .int .i64 b, .int .i64 c], 25, true, true⟩, some ⟨[.int .i64 a, .int .i64 b, .int .i64 c], 25, true, true⟩] (wkSame [2, 3, 4, 5] (by kernel_rfl)) ?_ ?_
  · exact ⟨0, (Nat.zero_le _), rfl, rfl, rfl⟩
  · rintro _ _ _ ⟨i, hi, rfl, rfl, rfl⟩
    have hcase : i = 0 ∨ i = 1 ∨ i = 2 ∨ i = 3 := by omega
    rcases hcase with rfl | rfl | rfl | rfl
    ·
      refine cSeq ?_
      refine cSeq ?_
      refine cReg ?_
      refine segEnd [2, 3, 4, 5, 7] (T1 := (mkT 17 [(2, .pointer (some ⟨0, 0, none⟩)), (3, .pointer (some ⟨1, 0, none⟩)), (4, .bool false), (5, .int .i64 0), (7, .bool true)])) (H1 := [some ⟨[.int .i64 a, .int .i64 b, .int .i64 c], 25, true, true⟩, some ⟨[.int .i64 a, .int .i64 b, .int .i64 c], 25, true, true⟩]) (by kernel_rfl) ?_
      refine kSeq ?_
      refine cTrue (by kernel_rfl) ?_
      refine cSkip ?_
      refine kSeq ?_
      refine cSeq ?_
      refine cBlk ?_
      refine cSeq ?_
      refine cRegD (by kernel_rfl) ?_
      refine segD 6 (T1 := (mkT 17 [(2, .pointer (some ⟨0, 0, none⟩)), (3, .pointer (some ⟨1, 0, none⟩)), (4, .bool false), (5, .int .i64 0), (7, .bool true), (10, .int .i64 0), (11, .pointer (some ⟨0, 0, none⟩)), (12, .int .i64 a), (13, .int .i64 0), (14, .pointer (some ⟨1, 0, none⟩)), (15, .int .i64 a)])) (H1 := [some ⟨[.int .i64 a, .int .i64 b, .int .i64 c], 25, true, true⟩, some ⟨[.int .i64 a, .int .i64 b, .int .i64 c], 25, true, true⟩]) (by kernel_rfl) ?_
      refine rOpD (v := .bool false) (H' := [some ⟨[.int .i64 a, .int .i64 b, .int .i64 c], 25, true, true⟩, some ⟨[.int .i64 a, .int .i64 b, .int .i64 c], 25, true, true⟩]) (by kernel_rfl) (eNeS (k := .i64) (a := a) (by kernel_rfl) (by kernel_rfl)) (by rfl) ?_
      refine segEndD [2, 3, 4, 5, 7, 16] (T1 := (mkT 17 [(2, .pointer (some ⟨0, 0, none⟩)), (3, .pointer (some ⟨1, 0, none⟩)), (4, .bool false), (5, .int .i64 0), (7, .bool true), (16, .bool false)])) (H1 := [some ⟨[.int .i64 a, .int .i64 b, .int .i64 c], 25, true, true⟩, some ⟨[.int .i64 a, .int .i64 b, .int .i64 c], 25, true, true⟩]) (by kernel_rfl) ?_
      refine kSeq ?_
      refine cFalse (by kernel_rfl) ?_
      refine cSkip ?_
      refine kBlk ?_
      refine kSeq ?_
      refine cReg ?_
      refine segEnd [2, 3, 4, 5, 7, 16] (T1 := (mkT 17 [(2, .pointer (some ⟨0, 0, none⟩)), (3, .pointer (some ⟨1, 0, none⟩)), (4, .bool false), (5, .int .i64 1), (7, .bool true), (16, .bool false)])) (H1 := [some ⟨[.int .i64 a, .int .i64 b, .int .i64 c], 25, true, true⟩, some ⟨[.int .i64 a, .int .i64 b, .int .i64 c], 25, true, true⟩]) (by kernel_rfl) ?_
      exact kLoop (3 - 1) (mkT 17 [(2, .pointer (some ⟨0, 0, none⟩)), (3, .pointer (some ⟨1, 0, none⟩)), (4, .bool false), (5, .int .i64 1)]) [some ⟨[.int .i64 a, .int .i64 b, .int .i64 c], 25, true, true⟩, some ⟨[.int .i64 a, .int .i64 b, .int .i64 c], 25, true, true⟩] (by omega) (wkSame [2, 3, 4, 5] (by kernel_rfl)) ⟨1, (by omega), rfl, rfl, rfl⟩
    ·
      refine cSeq ?_
      refine cSeq ?_
      refine cReg ?_
      refine segEnd [2, 3, 4, 5, 7] (T1 := (mkT 17 [(2, .pointer (some ⟨0, 0, none⟩)), (3, .pointer (some ⟨1, 0, none⟩)), (4, .bool false), (5, .int .i64 1), (7, .bool true)])) (H1 := [some ⟨[.int .i64 a, .int .i64 b, .int .i64 c], 25, true, true⟩, some ⟨[.int .i64 a, .int .i64 b, .int .i64 c], 25, true, true⟩]) (by kernel_rfl) ?_
      refine kSeq ?_
      refine cTrue (by kernel_rfl) ?_
      refine cSkip ?_
      refine kSeq ?_
      refine cSeq ?_
      refine cBlk ?_
      refine cSeq ?_
      refine cRegD (by kernel_rfl) ?_
      refine segD 6 (T1 := (mkT 17 [(2, .pointer (some ⟨0, 0, none⟩)), (3, .pointer (some ⟨1, 0, none⟩)), (4, .bool false), (5, .int .i64 1), (7, .bool true), (10, .int .i64 1), (11, .pointer (some ⟨0, 1, none⟩)), (12, .int .i64 b), (13, .int .i64 1), (14, .pointer (some ⟨1, 1, none⟩)), (15, .int .i64 b)])) (H1 := [some ⟨[.int .i64 a, .int .i64 b, .int .i64 c], 25, true, true⟩, some ⟨[.int .i64 a, .int .i64 b, .int .i64 c], 25, true, true⟩]) (by kernel_rfl) ?_
      refine rOpD (v := .bool false) (H' := [some ⟨[.int .i64 a, .int .i64 b, .int .i64 c], 25, true, true⟩, some ⟨[.int .i64 a, .int .i64 b, .int .i64 c], 25, true, true⟩]) (by kernel_rfl) (eNeS (k := .i64) (a := b) (by kernel_rfl) (by kernel_rfl)) (by rfl) ?_
      refine segEndD [2, 3, 4, 5, 7, 16] (T1 := (mkT 17 [(2, .pointer (some ⟨0, 0, none⟩)), (3, .pointer (some ⟨1, 0, none⟩)), (4, .bool false), (5, .int .i64 1), (7, .bool true), (16, .bool false)])) (H1 := [some ⟨[.int .i64 a, .int .i64 b, .int .i64 c], 25, true, true⟩, some ⟨[.int .i64 a, .int .i64 b, .int .i64 c], 25, true, true⟩]) (by kernel_rfl) ?_
      refine kSeq ?_
      refine cFalse (by kernel_rfl) ?_
      refine cSkip ?_
      refine kBlk ?_
      refine kSeq ?_
      refine cReg ?_
      refine segEnd [2, 3, 4, 5, 7, 16] (T1 := (mkT 17 [(2, .pointer (some ⟨0, 0, none⟩)), (3, .pointer (some ⟨1, 0, none⟩)), (4, .bool false), (5, .int .i64 2), (7, .bool true), (16, .bool false)])) (H1 := [some ⟨[.int .i64 a, .int .i64 b, .int .i64 c], 25, true, true⟩, some ⟨[.int .i64 a, .int .i64 b, .int .i64 c], 25, true, true⟩]) (by kernel_rfl) ?_
      exact kLoop (3 - 2) (mkT 17 [(2, .pointer (some ⟨0, 0, none⟩)), (3, .pointer (some ⟨1, 0, none⟩)), (4, .bool false), (5, .int .i64 2)]) [some ⟨[.int .i64 a, .int .i64 b, .int .i64 c], 25, true, true⟩, some ⟨[.int .i64 a, .int .i64 b, .int .i64 c], 25, true, true⟩] (by omega) (wkSame [2, 3, 4, 5] (by kernel_rfl)) ⟨2, (by omega), rfl, rfl, rfl⟩
    ·
      refine cSeq ?_
      refine cSeq ?_
      refine cReg ?_
      refine segEnd [2, 3, 4, 5, 7] (T1 := (mkT 17 [(2, .pointer (some ⟨0, 0, none⟩)), (3, .pointer (some ⟨1, 0, none⟩)), (4, .bool false), (5, .int .i64 2), (7, .bool true)])) (H1 := [some ⟨[.int .i64 a, .int .i64 b, .int .i64 c], 25, true, true⟩, some ⟨[.int .i64 a, .int .i64 b, .int .i64 c], 25, true, true⟩]) (by kernel_rfl) ?_
      refine kSeq ?_
      refine cTrue (by kernel_rfl) ?_
      refine cSkip ?_
      refine kSeq ?_
      refine cSeq ?_
      refine cBlk ?_
      refine cSeq ?_
      refine cRegD (by kernel_rfl) ?_
      refine segD 6 (T1 := (mkT 17 [(2, .pointer (some ⟨0, 0, none⟩)), (3, .pointer (some ⟨1, 0, none⟩)), (4, .bool false), (5, .int .i64 2), (7, .bool true), (10, .int .i64 2), (11, .pointer (some ⟨0, 2, none⟩)), (12, .int .i64 c), (13, .int .i64 2), (14, .pointer (some ⟨1, 2, none⟩)), (15, .int .i64 c)])) (H1 := [some ⟨[.int .i64 a, .int .i64 b, .int .i64 c], 25, true, true⟩, some ⟨[.int .i64 a, .int .i64 b, .int .i64 c], 25, true, true⟩]) (by kernel_rfl) ?_
      refine rOpD (v := .bool false) (H' := [some ⟨[.int .i64 a, .int .i64 b, .int .i64 c], 25, true, true⟩, some ⟨[.int .i64 a, .int .i64 b, .int .i64 c], 25, true, true⟩]) (by kernel_rfl) (eNeS (k := .i64) (a := c) (by kernel_rfl) (by kernel_rfl)) (by rfl) ?_
      refine segEndD [2, 3, 4, 5, 7, 16] (T1 := (mkT 17 [(2, .pointer (some ⟨0, 0, none⟩)), (3, .pointer (some ⟨1, 0, none⟩)), (4, .bool false), (5, .int .i64 2), (7, .bool true), (16, .bool false)])) (H1 := [some ⟨[.int .i64 a, .int .i64 b, .int .i64 c], 25, true, true⟩, some ⟨[.int .i64 a, .int .i64 b, .int .i64 c], 25, true, true⟩]) (by kernel_rfl) ?_
      refine kSeq ?_
      refine cFalse (by kernel_rfl) ?_
      refine cSkip ?_
      refine kBlk ?_
      refine kSeq ?_
      refine cReg ?_
      refine segEnd [2, 3, 4, 5, 7, 16] (T1 := (mkT 17 [(2, .pointer (some ⟨0, 0, none⟩)), (3, .pointer (some ⟨1, 0, none⟩)), (4, .bool false), (5, .int .i64 3), (7, .bool true), (16, .bool false)])) (H1 := [some ⟨[.int .i64 a, .int .i64 b, .int .i64 c], 25, true, true⟩, some ⟨[.int .i64 a, .int .i64 b, .int .i64 c], 25, true, true⟩]) (by kernel_rfl) ?_
      exact kLoop (3 - 3) (mkT 17 [(2, .pointer (some ⟨0, 0, none⟩)), (3, .pointer (some ⟨1, 0, none⟩)), (4, .bool false), (5, .int .i64 3)]) [some ⟨[.int .i64 a, .int .i64 b, .int .i64 c], 25, true, true⟩, some ⟨[.int .i64 a, .int .i64 b, .int .i64 c], 25, true, true⟩] (by omega) (wkSame [2, 3, 4, 5] (by kernel_rfl)) ⟨3, (by omega), rfl, rfl, rfl⟩
    ·
      refine cSeq ?_
      refine cSeq ?_
      refine cReg ?_
      refine segEnd [2, 3, 4, 5, 7] (T1 := (mkT 17 [(2, .pointer (some ⟨0, 0, none⟩)), (3, .pointer (some ⟨1, 0, none⟩)), (4, .bool false), (5, .int .i64 3), (7, .bool false)])) (H1 := [some ⟨[.int .i64 a, .int .i64 b, .int .i64 c], 25, true, true⟩, some ⟨[.int .i64 a, .int .i64 b, .int .i64 c], 25, true, true⟩]) (by kernel_rfl) ?_
      refine kSeq ?_
      refine cFalse (by kernel_rfl) ?_
      refine cExit ?_
      refine kSeqE ?_
      refine kLoopE ?_
      refine kBlkHit ?_
      refine kSeq ?_
      refine cSeq ?_
      refine cReg ?_
      refine segEnd [2, 3, 4, 5, 7] (T1 := (mkT 17 [(2, .pointer (some ⟨0, 0, none⟩)), (3, .pointer (some ⟨1, 0, none⟩)), (4, .bool true), (5, .int .i64 3), (7, .bool false)])) (H1 := [some ⟨[.int .i64 a, .int .i64 b, .int .i64 c], 25, true, true⟩, some ⟨[.int .i64 a, .int .i64 b, .int .i64 c], 25, true, true⟩]) (by kernel_rfl) ?_
      refine kSeq ?_
      refine cRet ?_
      exact endQ (Or.inr rfl) (l := [.bool true]) [some ⟨[.int .i64 a, .int .i64 b, .int .i64 c], 25, true, true⟩, some ⟨[.int .i64 a, .int .i64 b, .int .i64 c], 25, true, true⟩] (by kernel_rfl) (rfl) rfl rfl hcl rfl

set_option maxRecDepth 100000 in
set_option maxHeartbeats 4000000 in
theorem eqA3S_same (L : List A3) (hL : L.length ≤ 1048576) : Sound Try.prog 29 [.slice (some ⟨0, 0, none⟩) L.length 0, .slice (some ⟨1, 0, none⟩) L.length 0] [some ⟨a3s L, 25, false, false⟩, some ⟨a3s L, 25, false, false⟩] (.bool true) [some ⟨a3s L, 25, false, false⟩, some ⟨a3s L, 25, false, false⟩] := by
  refine sound_intro (C := cx) Try.func29 rfl (by kernel_rfl) fun hcl => ?_
  refine cSeq ?_
  refine cReg ?_
  refine segEnd [0, 1, 4] (T1 := (mkT 27 [(0, .slice (some ⟨0, 0, none⟩) L.length 0), (1, .slice (some ⟨1, 0, none⟩) L.length 0), (4, .bool false)])) (H1 := [some ⟨a3s L, 25, false, false⟩, some ⟨a3s L, 25, false, false⟩]) (by kernel_rfl) ?_
  refine kSeq ?_
  refine cSeq ?_
  refine cSeq ?_
  refine cReg ?_
  refine seg 4 (T1 := (mkT 27 [(0, .slice (some ⟨0, 0, none⟩) L.length 0), (1, .slice (some ⟨1, 0, none⟩) L.length 0), (4, .bool false), (6, .slice (some ⟨0, 0, none⟩) L.length 0), (7, .int .i64 ((L.length : Nat) : Int)), (8, .slice (some ⟨1, 0, none⟩) L.length 0), (9, .int .i64 ((L.length : Nat) : Int))])) (H1 := [some ⟨a3s L, 25, false, false⟩, some ⟨a3s L, 25, false, false⟩]) (by kernel_rfl) ?_
  refine rOp (v := .bool false) (H' := [some ⟨a3s L, 25, false, false⟩, some ⟨a3s L, 25, false, false⟩]) (by kernel_rfl) (eNeS (k := .i64) (a := ((L.length : Nat) : Int)) (by kernel_rfl) (by kernel_rfl)) ?_
  refine segEnd [0, 1, 4, 10] (T1 := (mkT 27 [(0, .slice (some ⟨0, 0, none⟩) L.length 0), (1, .slice (some ⟨1, 0, none⟩) L.length 0), (4, .bool false), (10, .bool false)])) (H1 := [some ⟨a3s L, 25, false, false⟩, some ⟨a3s L, 25, false, false⟩]) (by kernel_rfl) ?_
  refine kSeq ?_
  refine cFalse (by kernel_rfl) ?_
  refine cSkip ?_
  refine kSeq ?_
  refine cSeq ?_
  refine cSeq ?_
  refine cReg ?_
  refine segEnd [0, 1, 4, 5, 10] (T1 := (mkT 27 [(0, .slice (some ⟨0, 0, none⟩) L.length 0), (1, .slice (some ⟨1, 0, none⟩) L.length 0), (4, .bool false), (5, .int .i64 0), (10, .bool false)])) (H1 := [some ⟨a3s L, 25, false, false⟩, some ⟨a3s L, 25, false, false⟩]) (by kernel_rfl) ?_
  refine kSeq ?_
  refine cBlk ?_
  -- loop
  refine cLoop (fun mm T H => ∃ i : Nat, (i ≤ L.length) ∧ mm = L.length - i ∧ T = (mkT 27 [(0, .slice (some ⟨0, 0, none⟩) L.length 0), (1, .slice (some ⟨1, 0, none⟩) L.length 0), (4, .bool false), (5, .int .i64 ((i : Nat) : Int))]) ∧ H = [some ⟨a3s L, 25, false, false⟩, some ⟨a3s L, 25, false, false⟩]) (L.length - 0) (mkT 27 [(0, .slice (some ⟨0, 0, none⟩) L.length 0), (1, .slice (some ⟨1, 0, none⟩) L.length 0), (4, .bool false), (5, .int .i64 0)]) [some ⟨a3s L, 25, false, false⟩, some ⟨a3s L, 25, false, false⟩] (wkSame [0, 1, 4, 5] (by kernel_rfl)) ?_ ?_
  · exact ⟨0, (Nat.zero_le _), rfl, rfl, rfl⟩
  · rintro _ _ _ ⟨i, hi, rfl, rfl, rfl⟩
    refine cSeq ?_
    refine cSeq ?_
    refine cReg ?_
    refine segEnd [0, 1, 4, 5, 14] (T1 := (mkT 27 [(0, .slice (some ⟨0, 0, none⟩) L.length 0), (1, .slice (some ⟨1, 0, none⟩) L.length 0), (4, .bool false), (5, .int .i64 ((i : Nat) : Int)), (14, .bool (decide (((i : Nat) : Int) < ((L.length : Nat) : Int))))])) (H1 := [some ⟨a3s L, 25, false, false⟩, some ⟨a3s L, 25, false, false⟩]) (by kernel_rfl) ?_
    refine kSeq ?_
    cases h1 : (decide (((i : Nat) : Int) < ((L.length : Nat) : Int)) : Bool)
    ·
      (try simp only [Bool.not_eq_true', Bool.not_eq_false', decide_eq_true_eq, decide_eq_false_iff_not, beq_iff_eq, bne_iff_ne, beq_eq_false_iff_ne, bne_eq_false_iff_eq, ne_eq, Decidable.not_not, Bool.and_eq_true, Bool.and_eq_false_imp, Bool.or_eq_true, Bool.or_eq_false_iff, Bool.not_eq_true, Int.not_lt, Int.not_le, ge_iff_le, gt_iff_lt] at h1)
      refine cFalse (by kernel_rfl) ?_
      refine cExit ?_
      refine kSeqE ?_
      refine kLoopE ?_
      refine kBlkHit ?_
      refine kSeq ?_
      refine cSeq ?_
      refine cReg ?_
      refine segEnd [0, 1, 4, 5, 14] (T1 := (mkT 27 [(0, .slice (some ⟨0, 0, none⟩) L.length 0), (1, .slice (some ⟨1, 0, none⟩) L.length 0), (4, .bool true), (5, .int .i64 ((i : Nat) : Int)), (14, .bool false)])) (H1 := [some ⟨a3s L, 25, false, false⟩, some ⟨a3s L, 25, false, false⟩]) (by kernel_rfl) ?_
      refine kSeq ?_
      refine cRet ?_
      exact endQ (Or.inr rfl) (l := [.bool true]) [] (by kernel_rfl) (rfl) rfl rfl hcl rfl
    ·
      (try simp only [Bool.not_eq_true', Bool.not_eq_false', decide_eq_true_eq, decide_eq_false_iff_not, beq_iff_eq, bne_iff_ne, beq_eq_false_iff_ne, bne_eq_false_iff_eq, ne_eq, Decidable.not_not, Bool.and_eq_true, Bool.and_eq_false_imp, Bool.or_eq_true, Bool.or_eq_false_iff, Bool.not_eq_true, Int.not_lt, Int.not_le, ge_iff_le, gt_iff_lt] at h1)
      refine cTrue (by kernel_rfl) ?_
      refine cSkip ?_
      refine kSeq ?_
      refine cSeq ?_
      refine cBlk ?_
      refine cSeq ?_
      refine cRegD (by kernel_rfl) ?_
      refine segD 2 (T1 := (mkT 27 [(0, .slice (some ⟨0, 0, none⟩) L.length 0), (1, .slice (some ⟨1, 0, none⟩) L.length 0), (4, .bool false), (5, .int .i64 ((i : Nat) : Int)), (14, .bool true), (17, .slice (some ⟨0, 0, none⟩) L.length 0), (18, .int .i64 ((i : Nat) : Int))])) (H1 := [some ⟨a3s L, 25, false, false⟩, some ⟨a3s L, 25, false, false⟩]) (by kernel_rfl) ?_
      refine rOpD (v := .pointer (some ⟨0, i * 3, none⟩)) (H' := [some ⟨a3s L, 25, false, false⟩, some ⟨a3s L, 25, false, false⟩]) (by kernel_rfl) (eIdxS (ad := ⟨0, 0, none⟩) (n := L.length) (m := 0) (k := .i64) (c := ((i : Nat) : Int)) (j := i) (o := i * 3) (by kernel_rfl) (by kernel_rfl) ti22 ti25 (rfl) (by omega) (by exact Nat.zero_add _)) (by rfl) ?_
      refine rOpD (v := .agg #[.int .i64 ((L.getD i default).x), .int .i64 ((L.getD i default).y), .int .i64 ((L.getD i default).z)]) (H' := [some ⟨a3s L, 25, false, false⟩, some ⟨a3s L, 25, false, false⟩]) (by kernel_rfl) (eLdA3 (ad := ⟨0, i * 3, none⟩) (r := ⟨a3s L, 25, false, false⟩) (L := L) (j := i) (by kernel_rfl) (by kernel_rfl) rfl (by first | rfl | omega) (by omega) ti25) (by rfl) ?_
      refine segD 2 (T1 := (mkT 27 [(0, .slice (some ⟨0, 0, none⟩) L.length 0), (1, .slice (some ⟨1, 0, none⟩) L.length 0), (4, .bool false), (5, .int .i64 ((i : Nat) : Int)), (14, .bool true), (17, .slice (some ⟨0, 0, none⟩) L.length 0), (18, .int .i64 ((i : Nat) : Int)), (19, .pointer (some ⟨0, i * 3, none⟩)), (20, .agg #[.int .i64 ((L.getD i default).x), .int .i64 ((L.getD i default).y), .int .i64 ((L.getD i default).z)]), (21, .slice (some ⟨1, 0, none⟩) L.length 0), (22, .int .i64 ((i : Nat) : Int))])) (H1 := [some ⟨a3s L, 25, false, false⟩, some ⟨a3s L, 25, false, false⟩]) (by kernel_rfl) ?_
      refine rOpD (v := .pointer (some ⟨1, i * 3, none⟩)) (H' := [some ⟨a3s L, 25, false, false⟩, some ⟨a3s L, 25, false, false⟩]) (by kernel_rfl) (eIdxS (ad := ⟨1, 0, none⟩) (n := L.length) (m := 0) (k := .i64) (c := ((i : Nat) : Int)) (j := i) (o := i * 3) (by kernel_rfl) (by kernel_rfl) ti22 ti25 (rfl) (by omega) (by exact Nat.zero_add _)) (by rfl) ?_
      refine rOpD (v := .agg #[.int .i64 ((L.getD i default).x), .int .i64 ((L.getD i default).y), .int .i64 ((L.getD i default).z)]) (H' := [some ⟨a3s L, 25, false, false⟩, some ⟨a3s L, 25, false, false⟩]) (by kernel_rfl) (eLdA3 (ad := ⟨1, i * 3, none⟩) (r := ⟨a3s L, 25, false, false⟩) (L := L) (j := i) (by kernel_rfl) (by kernel_rfl) rfl (by first | rfl | omega) (by omega) ti25) (by rfl) ?_
      refine rCallQ (v := .bool true) (args := [.agg #[.int .i64 ((L.getD i default).x), .int .i64 ((L.getD i default).y), .int .i64 ((L.getD i default).z)], .agg #[.int .i64 ((L.getD i default).x), .int .i64 ((L.getD i default).y), .int .i64 ((L.getD i default).z)]]) (by kernel_rfl) rfl (by kernel_rfl) (by kernel_rfl) (by kernel_rfl) (Quiet.flat (eqA3_same ((L.getD i default).x) ((L.getD i default).y) ((L.getD i default).z)) rfl rfl) ?_
      refine segEndD [0, 1, 4, 5, 14, 26] (T1 := (mkT 27 [(0, .slice (some ⟨0, 0, none⟩) L.length 0), (1, .slice (some ⟨1, 0, none⟩) L.length 0), (4, .bool false), (5, .int .i64 ((i : Nat) : Int)), (14, .bool true), (26, .bool false)])) (H1 := [some ⟨a3s L, 25, false, false⟩, some ⟨a3s L, 25, false, false⟩]) (by kernel_rfl) ?_
      refine kSeq ?_
      refine cFalse (by kernel_rfl) ?_
      refine cSkip ?_
      refine kBlk ?_
      refine kSeq ?_
      refine cReg ?_
      refine seg 1 (T1 := (mkT 27 [(0, .slice (some ⟨0, 0, none⟩) L.length 0), (1, .slice (some ⟨1, 0, none⟩) L.length 0), (4, .bool false), (5, .int .i64 ((i : Nat) : Int)), (14, .bool true), (15, .int .i64 ((i : Nat) : Int)), (26, .bool false)])) (H1 := [some ⟨a3s L, 25, false, false⟩, some ⟨a3s L, 25, false, false⟩]) (by kernel_rfl) ?_
      refine rOp (v := .int .i64 ((i + 1 : Nat) : Int)) (H' := [some ⟨a3s L, 25, false, false⟩, some ⟨a3s L, 25, false, false⟩]) (by kernel_rfl) (eAdd (k := .i64) (a := ((i : Nat) : Int)) (b := 1) (c := ((i + 1 : Nat) : Int)) (by kernel_rfl) (by kernel_rfl) (wr64 (by omega) (by omega) (by omega))) ?_
      refine segEnd [0, 1, 4, 5, 14, 26] (T1 := (mkT 27 [(0, .slice (some ⟨0, 0, none⟩) L.length 0), (1, .slice (some ⟨1, 0, none⟩) L.length 0), (4, .bool false), (5, .int .i64 ((i + 1 : Nat) : Int)), (14, .bool true), (26, .bool false)])) (H1 := [some ⟨a3s L, 25, false, false⟩, some ⟨a3s L, 25, false, false⟩]) (by kernel_rfl) ?_
      exact kLoop (L.length - (i + 1)) (mkT 27 [(0, .slice (some ⟨0, 0, none⟩) L.length 0), (1, .slice (some ⟨1, 0, none⟩) L.length 0), (4, .bool false), (5, .int .i64 ((i + 1 : Nat) : Int))]) [some ⟨a3s L, 25, false, false⟩, some ⟨a3s L, 25, false, false⟩] (by omega) (wkSame [0, 1, 4, 5] (by kernel_rfl)) ⟨(i + 1), (by omega), rfl, rfl, rfl⟩

set_option maxRecDepth 100000 in
set_option maxHeartbeats 4000000 in
theorem eqHeap_same (x y z : Int) (L : List A3) (hL : L.length ≤ 1048576) : Sound Try.prog 20 [.agg #[.int .i64 x, .int .i64 y, .int .i64 z, .slice (some ⟨0, 0, none⟩) L.length 0], .agg #[.int .i64 x, .int .i64 y, .int .i64 z, .slice (some ⟨1, 0, none⟩) L.length 0]] [some ⟨a3s L, 25, false, false⟩, some ⟨a3s L, 25, false, false⟩] (.bool true) [some ⟨a3s L, 25, false, false⟩, some ⟨a3s L, 25, false, false⟩] := by
  refine sound_intro (C := cx) Try.func20 rfl (by kernel_rfl) fun hcl => ?_
  refine cSeq ?_
  refine cReg ?_
  refine segEnd [0, 1, 2, 3, 4] (T1 := (mkT 26 [(0, .agg #[.int .i64 x, .int .i64 y, .int .i64 z, .slice (some ⟨0, 0, none⟩) L.length 0]), (1, .agg #[.int .i64 x, .int .i64 y, .int .i64 z, .slice (some ⟨1, 0, none⟩) L.length 0]), (2, .pointer (some ⟨2, 0, none⟩)), (3, .pointer (some ⟨3, 0, none⟩)), (4, .bool false)])) (H1 := [some ⟨a3s L, 25, false, false⟩, some ⟨a3s L, 25, false, false⟩, some ⟨[.int .i64 x, .int .i64 y, .int .i64 z, .slice (some ⟨0, 0, none⟩) L.length 0], 29, true, true⟩, some ⟨[.int .i64 x, .int .i64 y, .int .i64 z, .slice (some ⟨1, 0, none⟩) L.length 0], 29, true, true⟩]) (by kernel_rfl) ?_
  refine kSeq ?_
  refine cSeq ?_
  refine cSeq ?_
  refine cReg ?_
  refine seg 4 (T1 := (mkT 26 [(0, .agg #[.int .i64 x, .int .i64 y, .int .i64 z, .slice (some ⟨0, 0, none⟩) L.length 0]), (1, .agg #[.int .i64 x, .int .i64 y, .int .i64 z, .slice (some ⟨1, 0, none⟩) L.length 0]), (2, .pointer (some ⟨2, 0, none⟩)), (3, .pointer (some ⟨3, 0, none⟩)), (4, .bool false), (5, .pointer (some ⟨2, 0, none⟩)), (6, .int .i64 x), (7, .pointer (some ⟨3, 0, none⟩)), (8, .int .i64 x)])) (H1 := [some ⟨a3s L, 25, false, false⟩, some ⟨a3s L, 25, false, false⟩, some ⟨[.int .i64 x, .int .i64 y, .int .i64 z, .slice (some ⟨0, 0, none⟩) L.length 0], 29, true, true⟩, some ⟨[.int .i64 x, .int .i64 y, .int .i64 z, .slice (some ⟨1, 0, none⟩) L.length 0], 29, true, true⟩]) (by kernel_rfl) ?_
  refine rOp (v := .bool false) (H' := [some ⟨a3s L, 25, false, false⟩, some ⟨a3s L, 25, false, false⟩, some ⟨[.int .i64 x, .int .i64 y, .int .i64 z, .slice (some ⟨0, 0, none⟩) L.length 0], 29, true, true⟩, some ⟨[.int .i64 x, .int .i64 y, .int .i64 z, .slice (some ⟨1, 0, none⟩) L.length 0], 29, true, true⟩]) (by kernel_rfl) (eNeS (k := .i64) (a := x) (by kernel_rfl) (by kernel_rfl)) ?_
  refine segEnd [0, 1, 2, 3, 4, 9] (T1 := (mkT 26 [(0, .agg #[.int .i64 x, .int .i64 y, .int .i64 z, .slice (some ⟨0, 0, none⟩) L.length 0]), (1, .agg #[.int .i64 x, .int .i64 y, .int .i64 z, .slice (some ⟨1, 0, none⟩) L.length 0]), (2, .pointer (some ⟨2, 0, none⟩)), (3, .pointer (some ⟨3, 0, none⟩)), (4, .bool false), (9, .bool false)])) (H1 := [some ⟨a3s L, 25, false, false⟩, some ⟨a3s L, 25, false, false⟩, some ⟨[.int .i64 x, .int .i64 y, .int .i64 z, .slice (some ⟨0, 0, none⟩) L.length 0], 29, true, true⟩, some ⟨[.int .i64 x, .int .i64 y, .int .i64 z, .slice (some ⟨1, 0, none⟩) L.length 0], 29, true, true⟩]) (by kernel_rfl) ?_
  refine kSeq ?_
  refine cFalse (by kernel_rfl) ?_
  refine cSkip ?_
  refine kSeq ?_
  refine cSeq ?_
  refine cSeq ?_
  refine cReg ?_
  refine seg 4 (T1 := (mkT 26 [(0, .agg #[.int .i64 x, .int .i64 y, .int .i64 z, .slice (some ⟨0, 0, none⟩) L.length 0]), (1, .agg #[.int .i64 x, .int .i64 y, .int .i64 z, .slice (some ⟨1, 0, none⟩) L.length 0]), (2, .pointer (some ⟨2, 0, none⟩)), (3, .pointer (some ⟨3, 0, none⟩)), (4, .bool false), (9, .bool false), (10, .pointer (some ⟨2, 1, none⟩)), (11, .int .i64 y), (12, .pointer (some ⟨3, 1, none⟩)), (13, .int .i64 y)])) (H1 := [some ⟨a3s L, 25, false, false⟩, some ⟨a3s L, 25, false, false⟩, some ⟨[.int .i64 x, .int .i64 y, .int .i64 z, .slice (some ⟨0, 0, none⟩) L.length 0], 29, true, true⟩, some ⟨[.int .i64 x, .int .i64 y, .int .i64 z, .slice (some ⟨1, 0, none⟩) L.length 0], 29, true, true⟩]) (by kernel_rfl) ?_
  refine rOp (v := .bool false) (H' := [some ⟨a3s L, 25, false, false⟩, some ⟨a3s L, 25, false, false⟩, some ⟨[.int .i64 x, .int .i64 y, .int .i64 z, .slice (some ⟨0, 0, none⟩) L.length 0], 29, true, true⟩, some ⟨[.int .i64 x, .int .i64 y, .int .i64 z, .slice (some ⟨1, 0, none⟩) L.length 0], 29, true, true⟩]) (by kernel_rfl) (eNeS (k := .i64) (a := y) (by kernel_rfl) (by kernel_rfl)) ?_
  refine segEnd [0, 1, 2, 3, 4, 9, 14] (T1 := (mkT 26 [(0, .agg #[.int .i64 x, .int .i64 y, .int .i64 z, .slice (some ⟨0, 0, none⟩) L.length 0]), (1, .agg #[.int .i64 x, .int .i64 y, .int .i64 z, .slice (some ⟨1, 0, none⟩) L.length 0]), (2, .pointer (some ⟨2, 0, none⟩)), (3, .pointer (some ⟨3, 0, none⟩)), (4, .bool false), (9, .bool false), (14, .bool false)])) (H1 := [some ⟨a3s L, 25, false, false⟩, some ⟨a3s L, 25, false, false⟩, some ⟨[.int .i64 x, .int .i64 y, .int .i64 z, .slice (some ⟨0, 0, none⟩) L.length 0], 29, true, true⟩, some ⟨[.int .i64 x, .int .i64 y, .int .i64 z, .slice (some ⟨1, 0, none⟩) L.length 0], 29, true, true⟩]) (by kernel_rfl) ?_
  refine kSeq ?_
  refine cFalse (by kernel_rfl) ?_
  refine cSkip ?_
  refine kSeq ?_
  refine cSeq ?_
  refine cSeq ?_
  refine cReg ?_
  refine seg 4 (T1 := (mkT 26 [(0, .agg #[.int .i64 x, .int .i64 y, .int .i64 z, .slice (some ⟨0, 0, none⟩) L.length 0]), (1, .agg #[.int .i64 x, .int .i64 y, .int .i64 z, .slice (some ⟨1, 0, none⟩) L.length 0]), (2, .pointer (some ⟨2, 0, none⟩)), (3, .pointer (some ⟨3, 0, none⟩)), (4, .bool false), (9, .bool false), (14, .bool false), (15, .pointer (some ⟨2, 2, none⟩)), (16, .int .i64 z), (17, .pointer (some ⟨3, 2, none⟩)), (18, .int .i64 z)])) (H1 := [some ⟨a3s L, 25, false, false⟩, some ⟨a3s L, 25, false, false⟩, some ⟨[.int .i64 x, .int .i64 y, .int .i64 z, .slice (some ⟨0, 0, none⟩) L.length 0], 29, true, true⟩, some ⟨[.int .i64 x, .int .i64 y, .int .i64 z, .slice (some ⟨1, 0, none⟩) L.length 0], 29, true, true⟩]) (by kernel_rfl) ?_
  refine rOp (v := .bool false) (H' := [some ⟨a3s L, 25, false, false⟩, some ⟨a3s L, 25, false, false⟩, some ⟨[.int .i64 x, .int .i64 y, .int .i64 z, .slice (some ⟨0, 0, none⟩) L.length 0], 29, true, true⟩, some ⟨[.int .i64 x, .int .i64 y, .int .i64 z, .slice (some ⟨1, 0, none⟩) L.length 0], 29, true, true⟩]) (by kernel_rfl) (eNeS (k := .i64) (a := z) (by kernel_rfl) (by kernel_rfl)) ?_
  refine segEnd [0, 1, 2, 3, 4, 9, 14, 19] (T1 := (mkT 26 [(0, .agg #[.int .i64 x, .int .i64 y, .int .i64 z, .slice (some ⟨0, 0, none⟩) L.length 0]), (1, .agg #[.int .i64 x, .int .i64 y, .int .i64 z, .slice (some ⟨1, 0, none⟩) L.length 0]), (2, .pointer (some ⟨2, 0, none⟩)), (3, .pointer (some ⟨3, 0, none⟩)), (4, .bool false), (9, .bool false), (14, .bool false), (19, .bool false)])) (H1 := [some ⟨a3s L, 25, false, false⟩, some ⟨a3s L, 25, false, false⟩, some ⟨[.int .i64 x, .int .i64 y, .int .i64 z, .slice (some ⟨0, 0, none⟩) L.length 0], 29, true, true⟩, some ⟨[.int .i64 x, .int .i64 y, .int .i64 z, .slice (some ⟨1, 0, none⟩) L.length 0], 29, true, true⟩]) (by kernel_rfl) ?_
  refine kSeq ?_
  refine cFalse (by kernel_rfl) ?_
  refine cSkip ?_
  refine kSeq ?_
  refine cSeq ?_
  refine cSeq ?_
  refine cReg ?_
  refine seg 4 (T1 := (mkT 26 [(0, .agg #[.int .i64 x, .int .i64 y, .int .i64 z, .slice (some ⟨0, 0, none⟩) L.length 0]), (1, .agg #[.int .i64 x, .int .i64 y, .int .i64 z, .slice (some ⟨1, 0, none⟩) L.length 0]), (2, .pointer (some ⟨2, 0, none⟩)), (3, .pointer (some ⟨3, 0, none⟩)), (4, .bool false), (9, .bool false), (14, .bool false), (19, .bool false), (20, .pointer (some ⟨2, 3, none⟩)), (21, .slice (some ⟨0, 0, none⟩) L.length 0), (22, .pointer (some ⟨3, 3, none⟩)), (23, .slice (some ⟨1, 0, none⟩) L.length 0)])) (H1 := [some ⟨a3s L, 25, false, false⟩, some ⟨a3s L, 25, false, false⟩, some ⟨[.int .i64 x, .int .i64 y, .int .i64 z, .slice (some ⟨0, 0, none⟩) L.length 0], 29, true, true⟩, some ⟨[.int .i64 x, .int .i64 y, .int .i64 z, .slice (some ⟨1, 0, none⟩) L.length 0], 29, true, true⟩]) (by kernel_rfl) ?_
  refine rCall (v := .bool true) (H' := [some ⟨a3s L, 25, false, false⟩, some ⟨a3s L, 25, false, false⟩, some ⟨[.int .i64 x, .int .i64 y, .int .i64 z, .slice (some ⟨0, 0, none⟩) L.length 0], 29, true, true⟩, some ⟨[.int .i64 x, .int .i64 y, .int .i64 z, .slice (some ⟨1, 0, none⟩) L.length 0], 29, true, true⟩]) (args := [.slice (some ⟨0, 0, none⟩) L.length 0, .slice (some ⟨1, 0, none⟩) L.length 0]) (by kernel_rfl) rfl (by kernel_rfl) (Sound.reads2 0 1 false false (eqA3S_same L (by first | omega | (simp only [allOf_length, List.length_nil, mk3_length]; omega))) (flatA3 _ _ _ _) (flatA3 _ _ _ _) rfl rfl rfl rfl rfl (by first | rfl | simp [mpV, mpA, mpS, mpP, renId, shift]) rfl) ?_
  refine segEnd [0, 1, 2, 3, 4, 9, 14, 19, 25] (T1 := (mkT 26 [(0, .agg #[.int .i64 x, .int .i64 y, .int .i64 z, .slice (some ⟨0, 0, none⟩) L.length 0]), (1, .agg #[.int .i64 x, .int .i64 y, .int .i64 z, .slice (some ⟨1, 0, none⟩) L.length 0]), (2, .pointer (some ⟨2, 0, none⟩)), (3, .pointer (some ⟨3, 0, none⟩)), (4, .bool false), (9, .bool false), (14, .bool false), (19, .bool false), (25, .bool false)])) (H1 := [some ⟨a3s L, 25, false, false⟩, some ⟨a3s L, 25, false, false⟩, some ⟨[.int .i64 x, .int .i64 y, .int .i64 z, .slice (some ⟨0, 0, none⟩) L.length 0], 29, true, true⟩, some ⟨[.int .i64 x, .int .i64 y, .int .i64 z, .slice (some ⟨1, 0, none⟩) L.length 0], 29, true, true⟩]) (by kernel_rfl) ?_
  refine kSeq ?_
  refine cFalse (by kernel_rfl) ?_
  refine cSkip ?_
  refine kSeq ?_
  refine cSeq ?_
  refine cReg ?_
  refine segEnd [0, 1, 2, 3, 4, 9, 14, 19, 25] (T1 := (mkT 26 [(0, .agg #[.int .i64 x, .int .i64 y, .int .i64 z, .slice (some ⟨0, 0, none⟩) L.length 0]), (1, .agg #[.int .i64 x, .int .i64 y, .int .i64 z, .slice (some ⟨1, 0, none⟩) L.length 0]), (2, .pointer (some ⟨2, 0, none⟩)), (3, .pointer (some ⟨3, 0, none⟩)), (4, .bool true), (9, .bool false), (14, .bool false), (19, .bool false), (25, .bool false)])) (H1 := [some ⟨a3s L, 25, false, false⟩, some ⟨a3s L, 25, false, false⟩, some ⟨[.int .i64 x, .int .i64 y, .int .i64 z, .slice (some ⟨0, 0, none⟩) L.length 0], 29, true, true⟩, some ⟨[.int .i64 x, .int .i64 y, .int .i64 z, .slice (some ⟨1, 0, none⟩) L.length 0], 29, true, true⟩]) (by kernel_rfl) ?_
  refine kSeq ?_
  refine cRet ?_
  exact endQ (Or.inr rfl) (l := [.bool true]) [some ⟨[.int .i64 x, .int .i64 y, .int .i64 z, .slice (some ⟨0, 0, none⟩) L.length 0], 29, true, true⟩, some ⟨[.int .i64 x, .int .i64 y, .int .i64 z, .slice (some ⟨1, 0, none⟩) L.length 0], 29, true, true⟩] (by kernel_rfl) (rfl) rfl rfl hcl rfl

set_option maxRecDepth 100000 in
set_option maxHeartbeats 4000000 in
theorem mark_ok (L : List A3) (m : Nat) (hLl : L.length ≤ 1048576) (hm : m ≤ 1099511627776) : Sound Try.prog 30 [.slice (some ⟨0, 0, none⟩) L.length 0, .int .i64 ((m : Nat) : Int)] [some ⟨a3s L, 25, false, true⟩] (.int .i64 ((m + 3 * L.length : Nat) : Int)) [some ⟨a3s (mk3 m L.length), 25, false, true⟩] := by
  refine sound_intro (C := cx) Try.func30 rfl (by kernel_rfl) fun hcl => ?_
  refine cSeq ?_
  refine cReg ?_
  refine segEnd [0, 1, 4] (T1 := (mkT 26 [(0, .slice (some ⟨0, 0, none⟩) L.length 0), (1, .int .i64 ((m : Nat) : Int)), (4, .int .i64 0)])) (H1 := [some ⟨a3s L, 25, false, true⟩]) (by kernel_rfl) ?_
  refine kSeq ?_
  refine cSeq ?_
  refine cSeq ?_
  refine cReg ?_
  refine segEnd [0, 1, 4, 5] (T1 := (mkT 26 [(0, .slice (some ⟨0, 0, none⟩) L.length 0), (1, .int .i64 ((m : Nat) : Int)), (4, .int .i64 0), (5, .int .i64 0)])) (H1 := [some ⟨a3s L, 25, false, true⟩]) (by kernel_rfl) ?_
  refine kSeq ?_
  refine cBlk ?_
  -- loop
  refine cLoop (fun mm T H => ∃ j : Nat, ∃ L2 : List A3, (j ≤ L.length) ∧ (L2 = mk3 m j ++ L.drop j) ∧ mm = L.length - j ∧ T = (mkT 26 [(0, .slice (some ⟨0, 0, none⟩) L.length 0), (1, .int .i64 ((m + 3 * j : Nat) : Int)), (4, .int .i64 0), (5, .int .i64 ((j : Nat) : Int))]) ∧ H = [some ⟨a3s L2, 25, false, true⟩]) (L.length - 0) (mkT 26 [(0, .slice (some ⟨0, 0, none⟩) L.length 0), (1, .int .i64 ((m + 3 * 0 : Nat) : Int)), (4, .int .i64 0), (5, .int .i64 0)]) [some ⟨a3s L, 25, false, true⟩] (wkSame [0, 1, 4, 5] (by kernel_rfl)) ?_ ?_
  · exact ⟨0, L, (Nat.zero_le _), (by simp [mk3]), rfl, rfl, rfl⟩
  · rintro _ _ _ ⟨j, L2, hj, hL2, rfl, rfl, rfl⟩
    have hlen : L2.length = L.length := (by rw [hL2]; simp [mk3_length]; omega)
    refine cSeq ?_
    refine cSeq ?_
    refine cReg ?_
    refine segEnd [0, 1, 4, 5, 10] (T1 := (mkT 26 [(0, .slice (some ⟨0, 0, none⟩) L.length 0), (1, .int .i64 ((m + 3 * j : Nat) : Int)), (4, .int .i64 0), (5, .int .i64 ((j : Nat) : Int)), (10, .bool (decide (((j : Nat) : Int) < ((L.length : Nat) : Int))))])) (H1 := [some ⟨a3s L2, 25, false, true⟩]) (by kernel_rfl) ?_
    refine kSeq ?_
    cases h1 : (decide (((j : Nat) : Int) < ((L.length : Nat) : Int)) : Bool)
    ·
      (try simp only [Bool.not_eq_true', Bool.not_eq_false', decide_eq_true_eq, decide_eq_false_iff_not, beq_iff_eq, bne_iff_ne, beq_eq_false_iff_ne, bne_eq_false_iff_eq, ne_eq, Decidable.not_not, Bool.and_eq_true, Bool.and_eq_false_imp, Bool.or_eq_true, Bool.or_eq_false_iff, Bool.not_eq_true, Int.not_lt, Int.not_le, ge_iff_le, gt_iff_lt] at h1)
      refine cFalse (by kernel_rfl) ?_
      refine cExit ?_
      refine kSeqE ?_
      refine kLoopE ?_
      refine kBlkHit ?_
      refine kSeq ?_
      refine cSeq ?_
      refine cReg ?_
      refine segEnd [0, 1, 4, 5, 10] (T1 := (mkT 26 [(0, .slice (some ⟨0, 0, none⟩) L.length 0), (1, .int .i64 ((m + 3 * j : Nat) : Int)), (4, .int .i64 ((m + 3 * j : Nat) : Int)), (5, .int .i64 ((j : Nat) : Int)), (10, .bool false)])) (H1 := [some ⟨a3s L2, 25, false, true⟩]) (by kernel_rfl) ?_
      refine kSeq ?_
      refine cRet ?_
      have hend : j = L.length := (by omega)
      have hfin : L2 = mk3 m L.length := (by rw [hL2, hend]; simp)
      subst hend
      clear hL2
      subst hfin
      exact endQ (Or.inr rfl) (l := [.int .i64 ((m + 3 * L.length : Nat) : Int)]) [] (by kernel_rfl) (rfl) rfl rfl (closedL ⟨clF (flatA3 _ _ _ _), trivial⟩) rfl
    ·
      (try simp only [Bool.not_eq_true', Bool.not_eq_false', decide_eq_true_eq, decide_eq_false_iff_not, beq_iff_eq, bne_iff_ne, beq_eq_false_iff_ne, bne_eq_false_iff_eq, ne_eq, Decidable.not_not, Bool.and_eq_true, Bool.and_eq_false_imp, Bool.or_eq_true, Bool.or_eq_false_iff, Bool.not_eq_true, Int.not_lt, Int.not_le, ge_iff_le, gt_iff_lt] at h1)
      refine cTrue (by kernel_rfl) ?_
      refine cSkip ?_
      refine kSeq ?_
      refine cSeq ?_
      refine cBlk ?_
      refine cSeq ?_
      refine cReg ?_
      refine segEnd [0, 1, 4, 5, 6, 10] (T1 := (mkT 26 [(0, .slice (some ⟨0, 0, none⟩) L.length 0), (1, .int .i64 ((m + 3 * j : Nat) : Int)), (4, .int .i64 0), (5, .int .i64 ((j : Nat) : Int)), (6, .int .i64 0), (10, .bool true)])) (H1 := [some ⟨a3s L2, 25, false, true⟩]) (by kernel_rfl) ?_
      refine kSeq ?_
      refine cBlk ?_
      -- loop
      refine cLoop (fun mm T H => ∃ k : Nat, ∃ L3 : List A3, (k ≤ 3) ∧ (L3 = marked L m j k) ∧ mm = 3 - k ∧ T = (mkT 26 [(0, .slice (some ⟨0, 0, none⟩) L.length 0), (1, .int .i64 ((m + 3 * j + k : Nat) : Int)), (4, .int .i64 0), (5, .int .i64 ((j : Nat) : Int)), (6, .int .i64 ((k : Nat) : Int))]) ∧ H = [some ⟨a3s L3, 25, false, true⟩]) (3 - 0) (mkT 26 [(0, .slice (some ⟨0, 0, none⟩) L.length 0), (1, .int .i64 ((m + 3 * j : Nat) : Int)), (4, .int .i64 0), (5, .int .i64 ((j : Nat) : Int)), (6, .int .i64 0)]) [some ⟨a3s L2, 25, false, true⟩] (wkSame [0, 1, 4, 5, 6] (by kernel_rfl)) ?_ ?_
      · exact ⟨0, L2, (Nat.zero_le _), (by rw [hL2]; exact marked_start L m j (by omega)), rfl, rfl, rfl⟩
      · rintro _ _ _ ⟨k, L3, hk, hL3, rfl, rfl, rfl⟩
        have hlen3 : L3.length = L.length := (by rw [hL3]; exact marked_length L m j k (by omega))
        have hcase : k = 0 ∨ k = 1 ∨ k = 2 ∨ k = 3 := by omega
        rcases hcase with rfl | rfl | rfl | rfl
        ·
          refine cSeq ?_
          refine cSeq ?_
          refine cReg ?_
          refine segEnd [0, 1, 4, 5, 6, 14] (T1 := (mkT 26 [(0, .slice (some ⟨0, 0, none⟩) L.length 0), (1, .int .i64 ((m + 3 * j : Nat) : Int)), (4, .int .i64 0), (5, .int .i64 ((j : Nat) : Int)), (6, .int .i64 0), (14, .bool true)])) (H1 := [some ⟨a3s L3, 25, false, true⟩]) (by kernel_rfl) ?_
          refine kSeq ?_
          refine cTrue (by kernel_rfl) ?_
          refine cSkip ?_
          refine kSeq ?_
          refine cSeq ?_
          refine cBlk ?_
          refine cSeq ?_
          refine cReg ?_
          refine seg 4 (T1 := (mkT 26 [(0, .slice (some ⟨0, 0, none⟩) L.length 0), (1, .int .i64 ((m + 3 * j : Nat) : Int)), (4, .int .i64 0), (5, .int .i64 ((j : Nat) : Int)), (6, .int .i64 0), (14, .bool true), (17, .slice (some ⟨0, 0, none⟩) L.length 0), (18, .int .i64 ((j : Nat) : Int)), (19, .int .i64 0), (20, .int .i64 ((m + 3 * j : Nat) : Int))])) (H1 := [some ⟨a3s L3, 25, false, true⟩]) (by kernel_rfl) ?_
          refine rOp (v := .pointer (some ⟨0, j * 3, none⟩)) (H' := [some ⟨a3s L3, 25, false, true⟩]) (by kernel_rfl) (eIdxS (ad := ⟨0, 0, none⟩) (n := L.length) (m := 0) (k := .i64) (c := ((j : Nat) : Int)) (j := j) (o := j * 3) (by kernel_rfl) (by kernel_rfl) ti22 ti25 (rfl) (by omega) (by exact Nat.zero_add _)) ?_
          refine seg 1 (T1 := (mkT 26 [(0, .slice (some ⟨0, 0, none⟩) L.length 0), (1, .int .i64 ((m + 3 * j : Nat) : Int)), (4, .int .i64 0), (5, .int .i64 ((j : Nat) : Int)), (6, .int .i64 0), (14, .bool true), (17, .slice (some ⟨0, 0, none⟩) L.length 0), (18, .int .i64 ((j : Nat) : Int)), (19, .int .i64 0), (20, .int .i64 ((m + 3 * j : Nat) : Int)), (21, .pointer (some ⟨0, j * 3, none⟩)), (22, .pointer (some ⟨0, j * 3 + 0, none⟩))])) (H1 := [some ⟨a3s L3, 25, false, true⟩]) (by kernel_rfl) ?_
          refine rOp (v := .tuple #[]) (H' := [some ⟨a3s ((L3).set j ((L3.getD j default).put 0 ((m + 3 * j : Nat) : Int))), 25, false, true⟩]) (by kernel_rfl) (eStA3i (b := 0) (o := (j * 3 + 0)) (L := L3) (e := 25) (bx := false) (j := j) (k := 0) (n := ((m + 3 * j : Nat) : Int)) (by kernel_rfl) (by kernel_rfl) (by kernel_rfl) (by first | rfl | omega) (by omega) (by decide) ti3 rfl (by rfl)) ?_
          refine segEnd [0, 1, 4, 5, 6, 14] (T1 := (mkT 26 [(0, .slice (some ⟨0, 0, none⟩) L.length 0), (1, .int .i64 ((m + 3 * j : Nat) : Int)), (4, .int .i64 0), (5, .int .i64 ((j : Nat) : Int)), (6, .int .i64 0), (14, .bool true)])) (H1 := [some ⟨a3s ((L3).set j ((L3.getD j default).put 0 ((m + 3 * j : Nat) : Int))), 25, false, true⟩]) (by kernel_rfl) ?_
          refine kSeq ?_
          refine cReg ?_
          refine seg 1 (T1 := (mkT 26 [(0, .slice (some ⟨0, 0, none⟩) L.length 0), (1, .int .i64 ((m + 3 * j : Nat) : Int)), (4, .int .i64 0), (5, .int .i64 ((j : Nat) : Int)), (6, .int .i64 0), (14, .bool true), (23, .int .i64 ((m + 3 * j : Nat) : Int))])) (H1 := [some ⟨a3s ((L3).set j ((L3.getD j default).put 0 ((m + 3 * j : Nat) : Int))), 25, false, true⟩]) (by kernel_rfl) ?_
          refine rOp (v := .int .i64 (((m + 3 * j) + 1 : Nat) : Int)) (H' := [some ⟨a3s ((L3).set j ((L3.getD j default).put 0 ((m + 3 * j : Nat) : Int))), 25, false, true⟩]) (by kernel_rfl) (eAdd (k := .i64) (a := ((m + 3 * j : Nat) : Int)) (b := 1) (c := (((m + 3 * j) + 1 : Nat) : Int)) (by kernel_rfl) (by kernel_rfl) (wr64 (by omega) (by omega) (by omega))) ?_
          refine segEnd [0, 1, 4, 5, 6, 14] (T1 := (mkT 26 [(0, .slice (some ⟨0, 0, none⟩) L.length 0), (1, .int .i64 (((m + 3 * j) + 1 : Nat) : Int)), (4, .int .i64 0), (5, .int .i64 ((j : Nat) : Int)), (6, .int .i64 0), (14, .bool true)])) (H1 := [some ⟨a3s ((L3).set j ((L3.getD j default).put 0 ((m + 3 * j : Nat) : Int))), 25, false, true⟩]) (by kernel_rfl) ?_
          refine kBlk ?_
          refine kSeq ?_
          refine cReg ?_
          refine segEnd [0, 1, 4, 5, 6, 14] (T1 := (mkT 26 [(0, .slice (some ⟨0, 0, none⟩) L.length 0), (1, .int .i64 (((m + 3 * j) + 1 : Nat) : Int)), (4, .int .i64 0), (5, .int .i64 ((j : Nat) : Int)), (6, .int .i64 1), (14, .bool true)])) (H1 := [some ⟨a3s ((L3).set j ((L3.getD j default).put 0 ((m + 3 * j : Nat) : Int))), 25, false, true⟩]) (by kernel_rfl) ?_
          exact kLoop (3 - 1) (mkT 26 [(0, .slice (some ⟨0, 0, none⟩) L.length 0), (1, .int .i64 ((m + 3 * j + 1 : Nat) : Int)), (4, .int .i64 0), (5, .int .i64 ((j : Nat) : Int)), (6, .int .i64 1)]) [some ⟨a3s ((L3).set j ((L3.getD j default).put 0 ((m + 3 * j : Nat) : Int))), 25, false, true⟩] (by omega) (wkSame [0, 1, 4, 5, 6] (by kernel_rfl)) ⟨1, ((L3).set j ((L3.getD j default).put 0 ((m + 3 * j : Nat) : Int))), (by omega), (by rw [hL3]; exact marked_put L m j 0 (by decide)), rfl, rfl, rfl⟩
        ·
          refine cSeq ?_
          refine cSeq ?_
          refine cReg ?_
          refine segEnd [0, 1, 4, 5, 6, 14] (T1 := (mkT 26 [(0, .slice (some ⟨0, 0, none⟩) L.length 0), (1, .int .i64 ((m + 3 * j + 1 : Nat) : Int)), (4, .int .i64 0), (5, .int .i64 ((j : Nat) : Int)), (6, .int .i64 1), (14, .bool true)])) (H1 := [some ⟨a3s L3, 25, false, true⟩]) (by kernel_rfl) ?_
          refine kSeq ?_
          refine cTrue (by kernel_rfl) ?_
          refine cSkip ?_
          refine kSeq ?_
          refine cSeq ?_
          refine cBlk ?_
          refine cSeq ?_
          refine cReg ?_
          refine seg 4 (T1 := (mkT 26 [(0, .slice (some ⟨0, 0, none⟩) L.length 0), (1, .int .i64 ((m + 3 * j + 1 : Nat) : Int)), (4, .int .i64 0), (5, .int .i64 ((j : Nat) : Int)), (6, .int .i64 1), (14, .bool true), (17, .slice (some ⟨0, 0, none⟩) L.length 0), (18, .int .i64 ((j : Nat) : Int)), (19, .int .i64 1), (20, .int .i64 ((m + 3 * j + 1 : Nat) : Int))])) (H1 := [some ⟨a3s L3, 25, false, true⟩]) (by kernel_rfl) ?_
          refine rOp (v := .pointer (some ⟨0, j * 3, none⟩)) (H' := [some ⟨a3s L3, 25, false, true⟩]) (by kernel_rfl) (eIdxS (ad := ⟨0, 0, none⟩) (n := L.length) (m := 0) (k := .i64) (c := ((j : Nat) : Int)) (j := j) (o := j * 3) (by kernel_rfl) (by kernel_rfl) ti22 ti25 (rfl) (by omega) (by exact Nat.zero_add _)) ?_
          refine seg 1 (T1 := (mkT 26 [(0, .slice (some ⟨0, 0, none⟩) L.length 0), (1, .int .i64 ((m + 3 * j + 1 : Nat) : Int)), (4, .int .i64 0), (5, .int .i64 ((j : Nat) : Int)), (6, .int .i64 1), (14, .bool true), (17, .slice (some ⟨0, 0, none⟩) L.length 0), (18, .int .i64 ((j : Nat) : Int)), (19, .int .i64 1), (20, .int .i64 ((m + 3 * j + 1 : Nat) : Int)), (21, .pointer (some ⟨0, j * 3, none⟩)), (22, .pointer (some ⟨0, j * 3 + 1, none⟩))])) (H1 := [some ⟨a3s L3, 25, false, true⟩]) (by kernel_rfl) ?_
          refine rOp (v := .tuple #[]) (H' := [some ⟨a3s ((L3).set j ((L3.getD j default).put 1 ((m + 3 * j + 1 : Nat) : Int))), 25, false, true⟩]) (by kernel_rfl) (eStA3i (b := 0) (o := (j * 3 + 1)) (L := L3) (e := 25) (bx := false) (j := j) (k := 1) (n := ((m + 3 * j + 1 : Nat) : Int)) (by kernel_rfl) (by kernel_rfl) (by kernel_rfl) (by first | rfl | omega) (by omega) (by decide) ti3 rfl (by rfl)) ?_
          refine segEnd [0, 1, 4, 5, 6, 14] (T1 := (mkT 26 [(0, .slice (some ⟨0, 0, none⟩) L.length 0), (1, .int .i64 ((m + 3 * j + 1 : Nat) : Int)), (4, .int .i64 0), (5, .int .i64 ((j : Nat) : Int)), (6, .int .i64 1), (14, .bool true)])) (H1 := [some ⟨a3s ((L3).set j ((L3.getD j default).put 1 ((m + 3 * j + 1 : Nat) : Int))), 25, false, true⟩]) (by kernel_rfl) ?_
          refine kSeq ?_
          refine cReg ?_
          refine seg 1 (T1 := (mkT 26 [(0, .slice (some ⟨0, 0, none⟩) L.length 0), (1, .int .i64 ((m + 3 * j + 1 : Nat) : Int)), (4, .int .i64 0), (5, .int .i64 ((j : Nat) : Int)), (6, .int .i64 1), (14, .bool true), (23, .int .i64 ((m + 3 * j + 1 : Nat) : Int))])) (H1 := [some ⟨a3s ((L3).set j ((L3.getD j default).put 1 ((m + 3 * j + 1 : Nat) : Int))), 25, false, true⟩]) (by kernel_rfl) ?_
          refine rOp (v := .int .i64 (((m + 3 * j + 1) + 1 : Nat) : Int)) (H' := [some ⟨a3s ((L3).set j ((L3.getD j default).put 1 ((m + 3 * j + 1 : Nat) : Int))), 25, false, true⟩]) (by kernel_rfl) (eAdd (k := .i64) (a := ((m + 3 * j + 1 : Nat) : Int)) (b := 1) (c := (((m + 3 * j + 1) + 1 : Nat) : Int)) (by kernel_rfl) (by kernel_rfl) (wr64 (by omega) (by omega) (by omega))) ?_
          refine segEnd [0, 1, 4, 5, 6, 14] (T1 := (mkT 26 [(0, .slice (some ⟨0, 0, none⟩) L.length 0), (1, .int .i64 (((m + 3 * j + 1) + 1 : Nat) : Int)), (4, .int .i64 0), (5, .int .i64 ((j : Nat) : Int)), (6, .int .i64 1), (14, .bool true)])) (H1 := [some ⟨a3s ((L3).set j ((L3.getD j default).put 1 ((m + 3 * j + 1 : Nat) : Int))), 25, false, true⟩]) (by kernel_rfl) ?_
          refine kBlk ?_
          refine kSeq ?_
          refine cReg ?_
          refine segEnd [0, 1, 4, 5, 6, 14] (T1 := (mkT 26 [(0, .slice (some ⟨0, 0, none⟩) L.length 0), (1, .int .i64 (((m + 3 * j + 1) + 1 : Nat) : Int)), (4, .int .i64 0), (5, .int .i64 ((j : Nat) : Int)), (6, .int .i64 2), (14, .bool true)])) (H1 := [some ⟨a3s ((L3).set j ((L3.getD j default).put 1 ((m + 3 * j + 1 : Nat) : Int))), 25, false, true⟩]) (by kernel_rfl) ?_
          exact kLoop (3 - 2) (mkT 26 [(0, .slice (some ⟨0, 0, none⟩) L.length 0), (1, .int .i64 ((m + 3 * j + 2 : Nat) : Int)), (4, .int .i64 0), (5, .int .i64 ((j : Nat) : Int)), (6, .int .i64 2)]) [some ⟨a3s ((L3).set j ((L3.getD j default).put 1 ((m + 3 * j + 1 : Nat) : Int))), 25, false, true⟩] (by omega) (wkSame [0, 1, 4, 5, 6] (by kernel_rfl)) ⟨2, ((L3).set j ((L3.getD j default).put 1 ((m + 3 * j + 1 : Nat) : Int))), (by omega), (by rw [hL3]; exact marked_put L m j 1 (by decide)), rfl, rfl, rfl⟩
        ·
          refine cSeq ?_
          refine cSeq ?_
          refine cReg ?_
          refine segEnd [0, 1, 4, 5, 6, 14] (T1 := (mkT 26 [(0, .slice (some ⟨0, 0, none⟩) L.length 0), (1, .int .i64 ((m + 3 * j + 2 : Nat) : Int)), (4, .int .i64 0), (5, .int .i64 ((j : Nat) : Int)), (6, .int .i64 2), (14, .bool true)])) (H1 := [some ⟨a3s L3, 25, false, true⟩]) (by kernel_rfl) ?_
          refine kSeq ?_
          refine cTrue (by kernel_rfl) ?_
          refine cSkip ?_
          refine kSeq ?_
          refine cSeq ?_
          refine cBlk ?_
          refine cSeq ?_
          refine cReg ?_
          refine seg 4 (T1 := (mkT 26 [(0, .slice (some ⟨0, 0, none⟩) L.length 0), (1, .int .i64 ((m + 3 * j + 2 : Nat) : Int)), (4, .int .i64 0), (5, .int .i64 ((j : Nat) : Int)), (6, .int .i64 2), (14, .bool true), (17, .slice (some ⟨0, 0, none⟩) L.length 0), (18, .int .i64 ((j : Nat) : Int)), (19, .int .i64 2), (20, .int .i64 ((m + 3 * j + 2 : Nat) : Int))])) (H1 := [some ⟨a3s L3, 25, false, true⟩]) (by kernel_rfl) ?_
          refine rOp (v := .pointer (some ⟨0, j * 3, none⟩)) (H' := [some ⟨a3s L3, 25, false, true⟩]) (by kernel_rfl) (eIdxS (ad := ⟨0, 0, none⟩) (n := L.length) (m := 0) (k := .i64) (c := ((j : Nat) : Int)) (j := j) (o := j * 3) (by kernel_rfl) (by kernel_rfl) ti22 ti25 (rfl) (by omega) (by exact Nat.zero_add _)) ?_
          refine seg 1 (T1 := (mkT 26 [(0, .slice (some ⟨0, 0, none⟩) L.length 0), (1, .int .i64 ((m + 3 * j + 2 : Nat) : Int)), (4, .int .i64 0), (5, .int .i64 ((j : Nat) : Int)), (6, .int .i64 2), (14, .bool true), (17, .slice (some ⟨0, 0, none⟩) L.length 0), (18, .int .i64 ((j : Nat) : Int)), (19, .int .i64 2), (20, .int .i64 ((m + 3 * j + 2 : Nat) : Int)), (21, .pointer (some ⟨0, j * 3, none⟩)), (22, .pointer (some ⟨0, j * 3 + 2, none⟩))])) (H1 := [some ⟨a3s L3, 25, false, true⟩]) (by kernel_rfl) ?_
          refine rOp (v := .tuple #[]) (H' := [some ⟨a3s ((L3).set j ((L3.getD j default).put 2 ((m + 3 * j + 2 : Nat) : Int))), 25, false, true⟩]) (by kernel_rfl) (eStA3i (b := 0) (o := (j * 3 + 2)) (L := L3) (e := 25) (bx := false) (j := j) (k := 2) (n := ((m + 3 * j + 2 : Nat) : Int)) (by kernel_rfl) (by kernel_rfl) (by kernel_rfl) (by first | rfl | omega) (by omega) (by decide) ti3 rfl (by rfl)) ?_
          refine segEnd [0, 1, 4, 5, 6, 14] (T1 := (mkT 26 [(0, .slice (some ⟨0, 0, none⟩) L.length 0), (1, .int .i64 ((m + 3 * j + 2 : Nat) : Int)), (4, .int .i64 0), (5, .int .i64 ((j : Nat) : Int)), (6, .int .i64 2), (14, .bool true)])) (H1 := [some ⟨a3s ((L3).set j ((L3.getD j default).put 2 ((m + 3 * j + 2 : Nat) : Int))), 25, false, true⟩]) (by kernel_rfl) ?_
          refine kSeq ?_
          refine cReg ?_
          refine seg 1 (T1 := (mkT 26 [(0, .slice (some ⟨0, 0, none⟩) L.length 0), (1, .int .i64 ((m + 3 * j + 2 : Nat) : Int)), (4, .int .i64 0), (5, .int .i64 ((j : Nat) : Int)), (6, .int .i64 2), (14, .bool true), (23, .int .i64 ((m + 3 * j + 2 : Nat) : Int))])) (H1 := [some ⟨a3s ((L3).set j ((L3.getD j default).put 2 ((m + 3 * j + 2 : Nat) : Int))), 25, false, true⟩]) (by kernel_rfl) ?_
          refine rOp (v := .int .i64 (((m + 3 * j + 2) + 1 : Nat) : Int)) (H' := [some ⟨a3s ((L3).set j ((L3.getD j default).put 2 ((m + 3 * j + 2 : Nat) : Int))), 25, false, true⟩]) (by kernel_rfl) (eAdd (k := .i64) (a := ((m + 3 * j + 2 : Nat) : Int)) (b := 1) (c := (((m + 3 * j + 2) + 1 : Nat) : Int)) (by kernel_rfl) (by kernel_rfl) (wr64 (by omega) (by omega) (by omega))) ?_
          refine segEnd [0, 1, 4, 5, 6, 14] (T1 := (mkT 26 [(0, .slice (some ⟨0, 0, none⟩) L.length 0), (1, .int .i64 (((m + 3 * j + 2) + 1 : Nat) : Int)), (4, .int .i64 0), (5, .int .i64 ((j : Nat) : Int)), (6, .int .i64 2), (14, .bool true)])) (H1 := [some ⟨a3s ((L3).set j ((L3.getD j default).put 2 ((m + 3 * j + 2 : Nat) : Int))), 25, false, true⟩]) (by kernel_rfl) ?_
          refine kBlk ?_
          refine kSeq ?_
          refine cReg ?_
          refine segEnd [0, 1, 4, 5, 6, 14] (T1 := (mkT 26 [(0, .slice (some ⟨0, 0, none⟩) L.length 0), (1, .int .i64 (((m + 3 * j + 2) + 1 : Nat) : Int)), (4, .int .i64 0), (5, .int .i64 ((j : Nat) : Int)), (6, .int .i64 3), (14, .bool true)])) (H1 := [some ⟨a3s ((L3).set j ((L3.getD j default).put 2 ((m + 3 * j + 2 : Nat) : Int))), 25, false, true⟩]) (by kernel_rfl) ?_
          exact kLoop (3 - 3) (mkT 26 [(0, .slice (some ⟨0, 0, none⟩) L.length 0), (1, .int .i64 ((m + 3 * j + 3 : Nat) : Int)), (4, .int .i64 0), (5, .int .i64 ((j : Nat) : Int)), (6, .int .i64 3)]) [some ⟨a3s ((L3).set j ((L3.getD j default).put 2 ((m + 3 * j + 2 : Nat) : Int))), 25, false, true⟩] (by omega) (wkSame [0, 1, 4, 5, 6] (by kernel_rfl)) ⟨3, ((L3).set j ((L3.getD j default).put 2 ((m + 3 * j + 2 : Nat) : Int))), (by omega), (by rw [hL3]; exact marked_put L m j 2 (by decide)), rfl, rfl, rfl⟩
        ·
          refine cSeq ?_
          refine cSeq ?_
          refine cReg ?_
          refine segEnd [0, 1, 4, 5, 6, 14] (T1 := (mkT 26 [(0, .slice (some ⟨0, 0, none⟩) L.length 0), (1, .int .i64 ((m + 3 * j + 3 : Nat) : Int)), (4, .int .i64 0), (5, .int .i64 ((j : Nat) : Int)), (6, .int .i64 3), (14, .bool false)])) (H1 := [some ⟨a3s L3, 25, false, true⟩]) (by kernel_rfl) ?_
          refine kSeq ?_
          refine cFalse (by kernel_rfl) ?_
          refine cExit ?_
          refine kSeqE ?_
          refine kLoopE ?_
          refine kBlkHit ?_
          refine kBlk ?_
          refine kSeq ?_
          refine cReg ?_
          refine seg 1 (T1 := (mkT 26 [(0, .slice (some ⟨0, 0, none⟩) L.length 0), (1, .int .i64 ((m + 3 * j + 3 : Nat) : Int)), (4, .int .i64 0), (5, .int .i64 ((j : Nat) : Int)), (6, .int .i64 3), (11, .int .i64 ((j : Nat) : Int)), (14, .bool false)])) (H1 := [some ⟨a3s L3, 25, false, true⟩]) (by kernel_rfl) ?_
          refine rOp (v := .int .i64 ((j + 1 : Nat) : Int)) (H' := [some ⟨a3s L3, 25, false, true⟩]) (by kernel_rfl) (eAdd (k := .i64) (a := ((j : Nat) : Int)) (b := 1) (c := ((j + 1 : Nat) : Int)) (by kernel_rfl) (by kernel_rfl) (wr64 (by omega) (by omega) (by omega))) ?_
          refine segEnd [0, 1, 4, 5, 6, 14] (T1 := (mkT 26 [(0, .slice (some ⟨0, 0, none⟩) L.length 0), (1, .int .i64 ((m + 3 * j + 3 : Nat) : Int)), (4, .int .i64 0), (5, .int .i64 ((j + 1 : Nat) : Int)), (6, .int .i64 3), (14, .bool false)])) (H1 := [some ⟨a3s L3, 25, false, true⟩]) (by kernel_rfl) ?_
          exact kLoop (L.length - (j + 1)) (mkT 26 [(0, .slice (some ⟨0, 0, none⟩) L.length 0), (1, .int .i64 ((m + 3 * (j + 1) : Nat) : Int)), (4, .int .i64 0), (5, .int .i64 ((j + 1 : Nat) : Int))]) [some ⟨a3s L3, 25, false, true⟩] (by omega) (wkSame [0, 1, 4, 5] (by kernel_rfl)) ⟨(j + 1), L3, (by omega), (by rw [hL3]; exact marked_end L m j), rfl, rfl, rfl⟩

set_option maxRecDepth 100000 in
set_option maxHeartbeats 4000000 in
theorem markHeap_ok (x y z : Int) (L : List A3) (m : Nat) (hLl : L.length ≤ 1048576) (hm : m ≤ 1099511627776) : Sound Try.prog 23 [.agg #[.int .i64 x, .int .i64 y, .int .i64 z, .slice (some ⟨0, 0, none⟩) L.length 0], .int .i64 ((m : Nat) : Int)] [some ⟨a3s L, 25, false, true⟩] (.int .i64 ((m + 3 * L.length : Nat) : Int)) [some ⟨a3s (mk3 m L.length), 25, false, true⟩] := by
  refine sound_intro (C := cx) Try.func23 rfl (by kernel_rfl) fun hcl => ?_
  refine cSeq ?_
  refine cReg ?_
  refine segEnd [0, 1, 2, 4] (T1 := (mkT 10 [(0, .agg #[.int .i64 x, .int .i64 y, .int .i64 z, .slice (some ⟨0, 0, none⟩) L.length 0]), (1, .int .i64 ((m : Nat) : Int)), (2, .pointer (some ⟨1, 0, none⟩)), (4, .int .i64 0)])) (H1 := [some ⟨a3s L, 25, false, true⟩, some ⟨[.int .i64 x, .int .i64 y, .int .i64 z, .slice (some ⟨0, 0, none⟩) L.length 0], 29, true, true⟩]) (by kernel_rfl) ?_
  refine kSeq ?_
  refine cSeq ?_
  refine cReg ?_
  refine seg 3 (T1 := (mkT 10 [(0, .agg #[.int .i64 x, .int .i64 y, .int .i64 z, .slice (some ⟨0, 0, none⟩) L.length 0]), (1, .int .i64 ((m : Nat) : Int)), (2, .pointer (some ⟨1, 0, none⟩)), (4, .int .i64 0), (5, .pointer (some ⟨1, 3, none⟩)), (6, .slice (some ⟨0, 0, none⟩) L.length 0), (7, .int .i64 ((m : Nat) : Int))])) (H1 := [some ⟨a3s L, 25, false, true⟩, some ⟨[.int .i64 x, .int .i64 y, .int .i64 z, .slice (some ⟨0, 0, none⟩) L.length 0], 29, true, true⟩]) (by kernel_rfl) ?_
  refine rCall (v := .int .i64 ((m + 3 * L.length : Nat) : Int)) (H' := [some ⟨a3s (mk3 m L.length), 25, false, true⟩, some ⟨[.int .i64 x, .int .i64 y, .int .i64 z, .slice (some ⟨0, 0, none⟩) L.length 0], 29, true, true⟩]) (args := [.slice (some ⟨0, 0, none⟩) L.length 0, .int .i64 ((m : Nat) : Int)]) (by kernel_rfl) rfl (by kernel_rfl) (Sound.emb_set (r := ⟨a3s L, 25, false, true⟩) (r' := ⟨a3s (mk3 m L.length), 25, false, true⟩) 0 (mark_ok L m (by first | omega | (simp only [allOf_length, List.length_nil, mk3_length]; omega)) (by omega)) (flatA3 _ _ _ _) rfl (flatA3 _ _ _ _) rfl rfl rfl (by first | rfl | simp [mpV, mpA, mpS, mpP, renId, shift]) rfl) ?_
  refine segEnd [0, 1, 2, 4] (T1 := (mkT 10 [(0, .agg #[.int .i64 x, .int .i64 y, .int .i64 z, .slice (some ⟨0, 0, none⟩) L.length 0]), (1, .int .i64 ((m + 3 * L.length : Nat) : Int)), (2, .pointer (some ⟨1, 0, none⟩)), (4, .int .i64 0)])) (H1 := [some ⟨a3s (mk3 m L.length), 25, false, true⟩, some ⟨[.int .i64 x, .int .i64 y, .int .i64 z, .slice (some ⟨0, 0, none⟩) L.length 0], 29, true, true⟩]) (by kernel_rfl) ?_
  refine kSeq ?_
  refine cSeq ?_
  refine cReg ?_
  refine segEnd [0, 1, 2, 4] (T1 := (mkT 10 [(0, .agg #[.int .i64 x, .int .i64 y, .int .i64 z, .slice (some ⟨0, 0, none⟩) L.length 0]), (1, .int .i64 ((m + 3 * L.length : Nat) : Int)), (2, .pointer (some ⟨1, 0, none⟩)), (4, .int .i64 ((m + 3 * L.length : Nat) : Int))])) (H1 := [some ⟨a3s (mk3 m L.length), 25, false, true⟩, some ⟨[.int .i64 x, .int .i64 y, .int .i64 z, .slice (some ⟨0, 0, none⟩) L.length 0], 29, true, true⟩]) (by kernel_rfl) ?_
  refine kSeq ?_
  refine cRet ?_
  exact endQ (Or.inr rfl) (l := [.int .i64 ((m + 3 * L.length : Nat) : Int)]) [some ⟨[.int .i64 x, .int .i64 y, .int .i64 z, .slice (some ⟨0, 0, none⟩) L.length 0], 29, true, true⟩] (by kernel_rfl) (rfl) rfl rfl (closedL ⟨clF (flatA3 _ _ _ _), trivial⟩) rfl

end Go.Proofs.Ytenkiofddpjidaa
