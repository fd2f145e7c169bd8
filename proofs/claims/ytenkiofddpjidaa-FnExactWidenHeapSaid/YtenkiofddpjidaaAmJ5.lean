/- Walks. No condition. -/
import Derived.Test.YtenkiofddpjidaaAmJ4
set_option linter.unusedVariables false
set_option linter.unusedSimpArgs false
namespace Go.Proofs.Ytenkiofddpjidaa
open Go.Am Go.RowKit
set_option maxRecDepth 100000 in
set_option maxHeartbeats 4000000 in
theorem widen1 (a : Int) (b : Int) (c : Int)  : Sound Try.prog 85 [.agg #[vI a, vI b, vI c]] [] (.agg #[vI a, vI b, vI c]) [] := by
  refine sound_intro (C := cx) Try.func85 rfl (by kernel_rfl) fun hcl => ?_
  refine cSeq ?_
  refine cReg ?_
  refine segEnd [1, 2] (T1 := (mkT 4 [(1, vP 0 0), (2, vP 1 0)])) (H1 := [rB [vI a, vI b, vI c] 25, rB [vI 0, vI 0, vI 0] 25]) (by kernel_rfl) ?_
  refine kSeq ?_
  refine cSeq ?_
  refine cReg ?_
  refine segEnd [2] (T1 := (mkT 4 [(2, vP 1 0)])) (H1 := [rB [vI a, vI b, vI c] 25, rB [vI a, vI b, vI c] 25]) (by kernel_rfl) ?_
  refine kSeq ?_
  refine cRet ?_
  -- end
  exact endQ (Or.inr rfl) (l := [.agg #[vI a, vI b, vI c]]) [rB [vI a, vI b, vI c] 25, rB [vI a, vI b, vI c] 25] (by kernel_rfl) (by first | rfl | kernel_rfl) rfl rfl hcl rfl

set_option maxRecDepth 100000 in
set_option maxHeartbeats 4000000 in
theorem movedW (X : Nat) (Y : Nat) (Z : Nat) (X2 : Nat) (Y2 : Nat) (Z2 : Nat) (L : List A3) (hs2 : Sides X2 Y2 Z2) (hL2 : HeapL X2 Y2 Z2 L) : Sound Try.prog 84 [.agg #[vN X, vN Y, vN Z, vS 0 L.length], .agg #[vN X2, vN Y2, vN Z2], .func (.func 85) #[] #[]] [some ⟨a3s L, 25, false, false⟩] (.agg #[vN X2, vN Y2, vN Z2, vS 1 ((listOf X2 Y2 Z2 (setOf Y2 Z2 L)).length)]) [some ⟨a3s L, 25, false, false⟩, some ⟨a3s (listOf X2 Y2 Z2 (setOf Y2 Z2 L)), 25, false, true⟩] := by
  refine sound_intro (C := cx) Try.func84 rfl (by kernel_rfl) fun hcl => ?_
  have hlen := hL2.len
  have hz2 := hs2.size
  refine cSeq ?_
  refine cReg ?_
  refine segEnd [2, 3, 4, 6] (T1 := (mkT 29 [(2, .func (.func 85) #[] #[]), (3, vP 1 0), (4, vP 2 0), (6, vP 3 0)])) (H1 := [some ⟨a3s L, 25, false, false⟩, rB [vN X, vN Y, vN Z, vS 0 L.length] 29, rB [vN X2, vN Y2, vN Z2] 60, rB [vI 0, vI 0, vI 0, .slice none 0 0] 29]) (by kernel_rfl) ?_
  refine kSeq ?_
  refine cSeq ?_
  refine cReg ?_
  refine segEndH [2, 3, 4, 6, 7] (T1 := (mkT 29 [(2, .func (.func 85) #[] #[]), (3, vP 1 0), (4, vP 2 0), (6, vP 3 0), (7, vU 0)])) (by kernel_rfl) ?_
  refine kSeq ?_
  refine cSeq ?_
  refine cSeq ?_
  refine cReg ?_
  refine segEndH [2, 4, 6, 7, 11, 12, 13] (T1 := (mkT 29 [(2, .func (.func 85) #[] #[]), (4, vP 2 0), (6, vP 3 0), (7, vU 0), (11, vS 0 L.length), (12, vN L.length), (13, vI 0)])) (by kernel_rfl) ?_
  refine kSeq ?_
  refine cBlk ?_
  -- loop
  refine cLoop (fun mm T H => ∃ i : Nat, ∃ s : Nat, (i ≤ L.length) ∧ (s = setOf Y2 Z2 (L.take i)) ∧ mm = L.length - i ∧ T = (mkT 29 [(2, .func (.func 85) #[] #[]), (4, vP 2 0), (6, vP 3 0), (7, vU s), (11, vS 0 L.length), (12, vN L.length), (13, vN i)]) ∧ H = [some ⟨a3s L, 25, false, false⟩, rB [vN X, vN Y, vN Z, vS 0 L.length] 29, rB [vN X2, vN Y2, vN Z2] 60, rB [vI 0, vI 0, vI 0, .slice none 0 0] 29]) (L.length - 0) (mkT 29 [(2, .func (.func 85) #[] #[]), (4, vP 2 0), (6, vP 3 0), (7, vU 0), (11, vS 0 L.length), (12, vN L.length), (13, vI 0)]) [some ⟨a3s L, 25, false, false⟩, rB [vN X, vN Y, vN Z, vS 0 L.length] 29, rB [vN X2, vN Y2, vN Z2] 60, rB [vI 0, vI 0, vI 0, .slice none 0 0] 29] (wkSame [2, 4, 6, 7, 11, 12, 13] (by kernel_rfl)) ?_ ?_
  · exact ⟨0, 0, (Nat.zero_le _), (rfl), rfl, rfl, rfl⟩
  · rintro _ _ _ ⟨i, s, hi, hs1, rfl, rfl, rfl⟩
    have hslt : s < 18446744073709551616 := hs1 ▸ setOf_lt fun d hd => Nat.lt_of_lt_of_le (idx_lt (hL2.mem_has hs2 (List.mem_of_mem_take hd))) hs2.size
    refine cSeq ?_
    refine cReg ?_
    refine segEndH [2, 4, 6, 7, 11, 12, 13, 14] (T1 := (mkT 29 [(2, .func (.func 85) #[] #[]), (4, vP 2 0), (6, vP 3 0), (7, vU s), (11, vS 0 L.length), (12, vN L.length), (13, vN i), (14, .bool (decide (((i : Nat) : Int) < ((L.length : Nat) : Int))))])) (by kernel_rfl) ?_
    refine kSeq ?_
    refine cSeq ?_
    cases h1 : (decide (((i : Nat) : Int) < ((L.length : Nat) : Int)) : Bool)
    ·
      (try simp only [Bool.not_eq_true', Bool.not_eq_false', decide_eq_true_eq, decide_eq_false_iff_not, beq_iff_eq, bne_iff_ne, beq_eq_false_iff_ne, bne_eq_false_iff_eq, ne_eq, Decidable.not_not, Bool.and_eq_true, Bool.and_eq_false_imp, Bool.or_eq_true, Bool.or_eq_false_iff, Bool.not_eq_true, Int.not_lt, Int.not_le, ge_iff_le, gt_iff_lt] at h1)
      refine cFalse (by kernel_rfl) ?_
      refine cExit ?_
      refine kSeqE ?_
      refine kLoopE ?_
      refine kBlkHit ?_
      refine kSeq ?_
      refine cSeq ?_
      refine cReg ?_
      refine segH 2 (T1 := (mkT 29 [(2, .func (.func 85) #[] #[]), (4, vP 2 0), (6, vP 3 0), (7, vU s), (11, vS 0 L.length), (12, vN L.length), (13, vN i), (14, .bool false), (26, .agg #[vN X2, vN Y2, vN Z2]), (27, vU s)])) (by kernel_rfl) ?_
      refine rCall (v := .agg #[vN X2, vN Y2, vN Z2, vS 4 ((listOf X2 Y2 Z2 s).length)]) (args := [.agg #[vN X2, vN Y2, vN Z2], vU s]) (by kernel_rfl) rfl (by kernel_rfl) (Sound.lay (E := [some ⟨a3s (listOf X2 Y2 Z2 s), 25, false, true⟩]) [] (heapB X2 Y2 Z2 s (by first | assumption | omega | rfl | decide | exact HeapL.list _ _ _ _ | exact HeapL.nil _ _ _ | exact HeapL.all _ _ _ | (apply HeapL.lt64 <;> assumption) | (repeat' (first | assumption | apply or_lt64 | apply and_lt64 | apply andn_lt64 | apply pow_lt64 | (apply HeapL.lt64 <;> assumption)))) (by first | assumption | omega | rfl | decide | exact HeapL.list _ _ _ _ | exact HeapL.nil _ _ _ | exact HeapL.all _ _ _ | (apply HeapL.lt64 <;> assumption) | (repeat' (first | assumption | apply or_lt64 | apply and_lt64 | apply andn_lt64 | apply pow_lt64 | (apply HeapL.lt64 <;> assumption))))) trivial rfl trivial rfl (by first | rfl | simp [mpV, mpA, mpS, mpP, renId, shift]) (by first | rfl | simp [mpV, mpA, mpS, mpP, renId, shift]) ⟨enF (flatA3 _ _ _ _) (Or.inl rfl), trivial⟩) ?_
      refine segEnd [6] (T1 := (mkT 29 [(6, vP 3 0)])) (H1 := [some ⟨a3s L, 25, false, false⟩, rB [vN X, vN Y, vN Z, vS 0 L.length] 29, rB [vN X2, vN Y2, vN Z2] 60, rB [vN X2, vN Y2, vN Z2, vS 4 ((listOf X2 Y2 Z2 s).length)] 29, some ⟨a3s (listOf X2 Y2 Z2 s), 25, false, true⟩]) (by kernel_rfl) ?_
      refine kSeq ?_
      refine cRet ?_
      -- end
      have he0 : ((listOf X2 Y2 Z2 s) : List A3) = (listOf X2 Y2 Z2 (setOf Y2 Z2 L)) := by (rw [hs1, show i = L.length by omega, List.take_length])
      refine endCast (v1 := .agg #[vN X2, vN Y2, vN Z2, vS 1 ((listOf X2 Y2 Z2 s).length)]) (H1 := [some ⟨a3s L, 25, false, false⟩, some ⟨a3s (listOf X2 Y2 Z2 s), 25, false, true⟩]) (by first | rfl | ((try rw [← he0]); done) | (simp only [← he0]; done)) (by first | rfl | ((try rw [← he0]); done) | (simp only [← he0]; done)) ?_
      exact endF (Or.inr rfl) (l := [.agg #[vN X2, vN Y2, vN Z2, vS 4 ((listOf X2 Y2 Z2 s).length)]]) [0, 4] (by kernel_rfl) (by first | rfl | simp [packR, mpV, mpA, mpS, mpP, renId]) ⟨rrF (flatA3 _ _ _ _) rfl, ⟨rrF (flatA3 _ _ _ _) rfl, trivial⟩⟩ rfl rfl
    ·
      (try simp only [Bool.not_eq_true', Bool.not_eq_false', decide_eq_true_eq, decide_eq_false_iff_not, beq_iff_eq, bne_iff_ne, beq_eq_false_iff_ne, bne_eq_false_iff_eq, ne_eq, Decidable.not_not, Bool.and_eq_true, Bool.and_eq_false_imp, Bool.or_eq_true, Bool.or_eq_false_iff, Bool.not_eq_true, Int.not_lt, Int.not_le, ge_iff_le, gt_iff_lt] at h1)
      have hhas := hL2.has hs2 (i := i) (by omega)
      have hidx := Nat.lt_of_lt_of_le (idx_lt hhas) hs2.size
      refine cTrue (by kernel_rfl) ?_
      refine cSkip ?_
      refine kSeq ?_
      refine cSeq ?_
      refine cBlk ?_
      refine cSeq ?_
      refine cReg ?_
      refine rOp (v := vP 0 (i * 3)) (by kernel_rfl) (eIdxS (ad := ⟨0, 0, none⟩) (n := L.length) (m := 0) (k := .i64) (c := ((i : Nat) : Int)) (j := i) (o := i * 3) (by kernel_rfl) (by kernel_rfl) ti22 ti25 (rfl) (by omega) (by exact Nat.zero_add _)) ?_
      refine rOp (v := .agg #[vI ((L.getD i default).x), vI ((L.getD i default).y), vI ((L.getD i default).z)]) (by kernel_rfl) (eLdA3 (ad := ⟨0, i * 3, none⟩) (r := ⟨a3s L, 25, false, false⟩) (L := L) (j := i) (by kernel_rfl) (by kernel_rfl) rfl (by first | rfl | omega) (by omega) ti25) ?_
      refine segEnd [2, 4, 6, 7, 9, 11, 12, 13] (T1 := (mkT 29 [(2, .func (.func 85) #[] #[]), (4, vP 2 0), (6, vP 3 0), (7, vU s), (9, vP 4 0), (11, vS 0 L.length), (12, vN L.length), (13, vN i)])) (H1 := [some ⟨a3s L, 25, false, false⟩, rB [vN X, vN Y, vN Z, vS 0 L.length] 29, rB [vN X2, vN Y2, vN Z2] 60, rB [vI 0, vI 0, vI 0, .slice none 0 0] 29, rB [vI ((L.getD i default).x), vI ((L.getD i default).y), vI ((L.getD i default).z)] 25]) (by kernel_rfl) ?_
      refine kSeq ?_
      refine cRegW (N := 5) [⟨[], [], []⟩, ⟨[], [], [2]⟩, ⟨[], [], []⟩, ⟨[], [], [4]⟩, ⟨[], [], []⟩, ⟨[], [], []⟩, ⟨[], [], []⟩, ⟨[], [], []⟩, ⟨[], [], []⟩] 0 [] (by rfl) (by rfl) (by kernel_rfl) (by kernel_rfl) (by kernel_rfl) ⟨nmsF (flatA3 _ _ _ _), ⟨nmsX (by kernel_rfl), ⟨nmsX (by kernel_rfl), ⟨nmsX (by kernel_rfl), ⟨nmsX (by kernel_rfl), trivial⟩⟩⟩⟩⟩ ?_
      refine segWH 4 (T1 := (mkT 29 [(2, .func (.func 85) #[] #[]), (4, vP 2 0), (6, vP 3 0), (7, vU s), (9, vP 4 0), (11, vS 0 L.length), (12, vN L.length), (13, vN i), (17, vU s), (18, .agg #[vN X2, vN Y2, vN Z2]), (19, .func (.func 85) #[] #[]), (20, .agg #[vI ((L.getD i default).x), vI ((L.getD i default).y), vI ((L.getD i default).z)])])) (by kernel_rfl) ?_
      refine rW (m := ⟨[], [], []⟩) (v := .agg #[vI ((L.getD i default).x), vI ((L.getD i default).y), vI ((L.getD i default).z)]) rfl (by kernel_rfl) (stQ (args := [.agg #[vI ((L.getD i default).x), vI ((L.getD i default).y), vI ((L.getD i default).z)]]) rfl (by kernel_rfl) (Any.lay0 [] (widen1 ((L.getD i default).x) ((L.getD i default).y) ((L.getD i default).z)) trivial rfl trivial rfl (by first | rfl | simp [mpV, mpA, mpS, mpP, renId, shift]) (by first | rfl | simp [mpV, mpA, mpS, mpP, renId, shift])) rfl (by kernel_rfl) (by kernel_rfl)) (by kernel_rfl) nr0 ?_
      refine rW (m := ⟨[], [], []⟩) (v := vN (idxN Y2 Z2 (L.getD i default))) rfl (by kernel_rfl) (stQ (args := [.agg #[vN X2, vN Y2, vN Z2], .agg #[vI ((L.getD i default).x), vI ((L.getD i default).y), vI ((L.getD i default).z)]]) rfl (by kernel_rfl) (Any.lay0 [] (indexB X2 Y2 Z2 ((L.getD i default).x) ((L.getD i default).y) ((L.getD i default).z) (by first | assumption | omega | rfl | decide | exact HeapL.list _ _ _ _ | exact HeapL.nil _ _ _ | exact HeapL.all _ _ _ | (apply HeapL.lt64 <;> assumption) | (repeat' (first | assumption | apply or_lt64 | apply and_lt64 | apply andn_lt64 | apply pow_lt64 | (apply HeapL.lt64 <;> assumption)))) (by first | assumption | omega | rfl | decide | exact HeapL.list _ _ _ _ | exact HeapL.nil _ _ _ | exact HeapL.all _ _ _ | (apply HeapL.lt64 <;> assumption) | (repeat' (first | assumption | apply or_lt64 | apply and_lt64 | apply andn_lt64 | apply pow_lt64 | (apply HeapL.lt64 <;> assumption))))) trivial rfl trivial rfl (by first | rfl | simp [mpV, mpA, mpS, mpP, renId, shift]) rfl) rfl (by kernel_rfl) (by kernel_rfl)) (by kernel_rfl) nr0 ?_
      refine rW (m := ⟨[], [], []⟩) (v := vU (2 ^ (idxN Y2 Z2 (L.getD i default)))) rfl (by kernel_rfl) (stId (eShl (k := .u64) (a := 1) (b := ((idxN Y2 Z2 (L.getD i default) : Nat) : Int)) (k' := .i64) (c := ((2 ^ (idxN Y2 Z2 (L.getD i default)) : Nat) : Int)) (by kernel_rfl) (by kernel_rfl) (by omega) (shl1 _ (by omega))) rfl (by kernel_rfl) (by kernel_rfl) (by kernel_rfl)) (by kernel_rfl) nr0 ?_
      refine rW (m := ⟨[], [], []⟩) (v := vU (s ||| (2 ^ (idxN Y2 Z2 (L.getD i default))))) rfl (by kernel_rfl) (stId (eOp (k := .u64) (a := ((s : Nat) : Int)) (b := ((2 ^ (idxN Y2 Z2 (L.getD i default)) : Nat) : Int)) (by kernel_rfl) (by kernel_rfl) ⟨by decide, by decide⟩ (orU s (2 ^ (idxN Y2 Z2 (L.getD i default))) (by first | assumption | omega | (repeat' (first | assumption | omega | apply or_lt64 | apply and_lt64 | apply andn_lt64 | apply pow_lt64 | (apply HeapL.lt64 <;> assumption)))) (by first | assumption | omega | (repeat' (first | assumption | omega | apply or_lt64 | apply and_lt64 | apply andn_lt64 | apply pow_lt64 | (apply HeapL.lt64 <;> assumption)))))) rfl (by kernel_rfl) (by kernel_rfl) (by kernel_rfl)) (by kernel_rfl) nr0 ?_
      refine segEndWH [2, 4, 6, 7, 11, 12, 13] (T1 := (mkT 29 [(2, .func (.func 85) #[] #[]), (4, vP 2 0), (6, vP 3 0), (7, vU (s ||| (2 ^ (idxN Y2 Z2 (L.getD i default))))), (11, vS 0 L.length), (12, vN L.length), (13, vN i)])) (by kernel_rfl) ?_
      refine kBlk ?_
      refine kSeq ?_
      refine cReg ?_
      refine rOp (v := vN (i + 1)) (by kernel_rfl) (eAdd (k := .i64) (a := ((i : Nat) : Int)) (b := 1) (c := ((i + 1 : Nat) : Int)) (by kernel_rfl) (by kernel_rfl) (wr64 (by omega) (by omega) (by omega))) ?_
      refine segEndH [2, 4, 6, 7, 11, 12, 13] (T1 := (mkT 29 [(2, .func (.func 85) #[] #[]), (4, vP 2 0), (6, vP 3 0), (7, vU (s ||| (2 ^ (idxN Y2 Z2 (L.getD i default))))), (11, vS 0 L.length), (12, vN L.length), (13, vN (i + 1))])) (by kernel_rfl) ?_
      exact kLoop (L.length - (i + 1)) (mkT 29 [(2, .func (.func 85) #[] #[]), (4, vP 2 0), (6, vP 3 0), (7, vU (s ||| (2 ^ (idxN Y2 Z2 (L.getD i default))))), (11, vS 0 L.length), (12, vN L.length), (13, vN (i + 1))]) [some ⟨a3s L, 25, false, false⟩, rB [vN X, vN Y, vN Z, vS 0 L.length] 29, rB [vN X2, vN Y2, vN Z2] 60, rB [vI 0, vI 0, vI 0, .slice none 0 0] 29] (by omega) (wkDrop [2, 4, 6, 7, 11, 12, 13] _ rfl rfl ((closedL ⟨clF (flatA3 _ _ _ _), ⟨clX rfl, ⟨clX rfl, ⟨clX rfl, trivial⟩⟩⟩⟩)) (by kernel_rfl) rfl) ⟨(i + 1), (s ||| (2 ^ (idxN Y2 Z2 (L.getD i default)))), (by omega), (by rw [hs1]; exact (setOf_take Y2 Z2 L i (by omega)).symm), rfl, rfl, rfl⟩

end Go.Proofs.Ytenkiofddpjidaa
