/- Walks. No condition. -/
import Derived.Test.YtenkiofddpjidaaAmJ4
set_option linter.unusedVariables false
set_option linter.unusedSimpArgs false
namespace Go.Proofs.Ytenkiofddpjidaa
open Go.Am Go.RowKit
set_option maxRecDepth 100000 in
set_option maxHeartbeats 4000000 in
theorem mirror0 (X : Nat) (Y : Nat) (Z : Nat) (a : Int) (b : Int) (c : Int) (hs : Sides X Y Z) (hh : has3 (X : Int) (Y : Int) (Z : Int) a b c = true) : Sound Try.prog 90 [.agg #[vN X, vN Y, vN Z], .agg #[vI a, vI b, vI c], vI 0] [] (.agg #[vI (((X : Nat) : Int) - 1 - a), vI b, vI c]) [] := by
  refine sound_intro (C := cx) Try.func90 rfl (by kernel_rfl) fun hcl => ?_
  have hz := hs.size
  have hx0 := hs.x0
  have hx4 := hs.x4
  have hy0 := hs.y0
  have hy4 := hs.y4
  have hz0 := hs.z0
  have hz4 := hs.z4
  have hh3 := (has3_iff (c := A3.mk a b c)).1 hh
  simp only at hh3
  refine cSeq ?_
  refine cReg ?_
  refine segEnd [2, 3, 4, 6] (T1 := (mkT 18 [(2, vI 0), (3, vP 0 0), (4, vP 1 0), (6, vP 2 0)])) (H1 := [rB [vN X, vN Y, vN Z] 60, rB [vI a, vI b, vI c] 25, rB [vI 0, vI 0, vI 0] 25]) (by kernel_rfl) ?_
  refine kSeq ?_
  refine cSeq ?_
  refine cRegW (N := 3) [⟨[], [], []⟩, ⟨[], [], []⟩, ⟨[], [], []⟩, ⟨[], [], [0]⟩, ⟨[], [], []⟩, ⟨[], [], []⟩, ⟨[], [], []⟩, ⟨[], [], [1]⟩, ⟨[], [], []⟩, ⟨[], [], []⟩, ⟨[], [1], []⟩] 0 [] (by rfl) (by rfl) (by kernel_rfl) (by kernel_rfl) (by kernel_rfl) ⟨nmsX (by kernel_rfl), ⟨nmsX (by kernel_rfl), ⟨nmsX (by kernel_rfl), trivial⟩⟩⟩ ?_
  refine segWH 4 (T1 := (mkT 18 [(2, vI 0), (3, vP 0 0), (4, vP 1 0), (6, vP 2 0), (7, vI 0), (8, vI 0), (9, vP 0 0), (10, vN X)])) (by kernel_rfl) ?_
  refine rW (m := ⟨[], [], []⟩) (v := vI (((X : Nat) : Int) - 1)) rfl (by kernel_rfl) (stId (eSub (k := .i64) (a := ((X : Nat) : Int)) (b := 1) (c := (((X : Nat) : Int) - 1)) (by kernel_rfl) (by kernel_rfl) (wr64 (by omega) (by omega) (by omega))) rfl (by kernel_rfl) (by kernel_rfl) (by kernel_rfl)) (by kernel_rfl) nr0 ?_
  refine segWH 3 (T1 := (mkT 18 [(2, vI 0), (3, vP 0 0), (4, vP 1 0), (6, vP 2 0), (7, vI 0), (8, vI 0), (9, vP 0 0), (10, vN X), (11, vI (((X : Nat) : Int) - 1)), (12, vI 0), (13, vP 1 0), (14, vI a)])) (by kernel_rfl) ?_
  refine rW (m := ⟨[], [], []⟩) (v := vI (((X : Nat) : Int) - 1 - a)) rfl (by kernel_rfl) (stId (eSub (k := .i64) (a := (((X : Nat) : Int) - 1)) (b := a) (c := (((X : Nat) : Int) - 1 - a)) (by kernel_rfl) (by kernel_rfl) (wr64 (by omega) (by omega) (by omega))) rfl (by kernel_rfl) (by kernel_rfl) (by kernel_rfl)) (by kernel_rfl) nr0 ?_
  refine segWH 1 (T1 := (mkT 18 [(2, vI 0), (3, vP 0 0), (4, vP 1 0), (6, vP 2 0), (7, vI 0), (8, vI 0), (9, vP 0 0), (10, vN X), (11, vI (((X : Nat) : Int) - 1)), (12, vI 0), (13, vP 1 0), (14, vI a), (15, vI (((X : Nat) : Int) - 1 - a)), (16, vP 1 0)])) (by kernel_rfl) ?_
  refine rW (m := ⟨[], [1], []⟩) (v := .tuple #[]) rfl (by kernel_rfl) (stSet (b := 1) (r := ⟨[vI (((X : Nat) : Int) - 1 - a), vI b, vI c], 25, true, true⟩) (by kernel_rfl) rfl (by kernel_rfl) (by kernel_rfl) (by kernel_rfl) (by kernel_rfl) (nmX (by kernel_rfl)) (clX (by kernel_rfl))) (by kernel_rfl) (NRs.all ⟨nrOf (by rfl) (nmX (by kernel_rfl)), trivial⟩) ?_
  refine segEndW [4, 6] (T1 := (mkT 18 [(4, vP 1 0), (6, vP 2 0)])) (H1 := [rB [vN X, vN Y, vN Z] 60, rB [vI (((X : Nat) : Int) - 1 - a), vI b, vI c] 25, rB [vI 0, vI 0, vI 0] 25]) (by kernel_rfl) ?_
  refine kSeq ?_
  refine cSeq ?_
  refine cReg ?_
  refine segEnd [6] (T1 := (mkT 18 [(6, vP 2 0)])) (H1 := [rB [vN X, vN Y, vN Z] 60, rB [vI (((X : Nat) : Int) - 1 - a), vI b, vI c] 25, rB [vI (((X : Nat) : Int) - 1 - a), vI b, vI c] 25]) (by kernel_rfl) ?_
  refine kSeq ?_
  refine cRet ?_
  -- end
  exact endQ (Or.inr rfl) (l := [.agg #[vI (((X : Nat) : Int) - 1 - a), vI b, vI c]]) [rB [vN X, vN Y, vN Z] 60, rB [vI (((X : Nat) : Int) - 1 - a), vI b, vI c] 25, rB [vI (((X : Nat) : Int) - 1 - a), vI b, vI c] 25] (by kernel_rfl) (by first | rfl | kernel_rfl) rfl rfl hcl rfl

set_option maxRecDepth 100000 in
set_option maxHeartbeats 4000000 in
theorem mirrorC0 (X : Nat) (Y : Nat) (Z : Nat) (a : Int) (b : Int) (c : Int) (L : List A3) (hs : Sides X Y Z) (hh : has3 (X : Int) (Y : Int) (Z : Int) a b c = true) : Sound Try.prog 89 [.agg #[vI a, vI b, vI c], vP 0 0, vP 1 0] [some ⟨[vN X, vN Y, vN Z, vS 2 L.length], 29, true, false⟩, some ⟨[vI 0], 3, true, false⟩, some ⟨a3s L, 25, false, false⟩] (.agg #[vI (((X : Nat) : Int) - 1 - a), vI b, vI c]) [some ⟨[vN X, vN Y, vN Z, vS 2 L.length], 29, true, false⟩, some ⟨[vI 0], 3, true, false⟩, some ⟨a3s L, 25, false, false⟩] := by
  refine sound_intro (C := cx) Try.func89 rfl (by kernel_rfl) fun hcl => ?_
  refine cSeq ?_
  refine cReg ?_
  refine segEnd [1, 2, 3, 4] (T1 := (mkT 10 [(1, vP 0 0), (2, vP 1 0), (3, vP 3 0), (4, vP 4 0)])) (H1 := [some ⟨[vN X, vN Y, vN Z, vS 2 L.length], 29, true, false⟩, some ⟨[vI 0], 3, true, false⟩, some ⟨a3s L, 25, false, false⟩, rB [vI a, vI b, vI c] 25, rB [vI 0, vI 0, vI 0] 25]) (by kernel_rfl) ?_
  refine kSeq ?_
  refine cSeq ?_
  refine cRegW (N := 5) [⟨[], [], [0]⟩, ⟨[], [], [2]⟩, ⟨[], [], [3]⟩, ⟨[], [], [1]⟩, ⟨[], [], []⟩, ⟨[], [4], []⟩] 0 [] (by rfl) (by rfl) (by kernel_rfl) (by kernel_rfl) (by kernel_rfl) ⟨nmsX (by kernel_rfl), ⟨nmsX (by kernel_rfl), ⟨nmsF (flatA3 _ _ _ _), ⟨nmsX (by kernel_rfl), ⟨nmsX (by kernel_rfl), trivial⟩⟩⟩⟩⟩ ?_
  refine segWH 1 (T1 := (mkT 10 [(1, vP 0 0), (2, vP 1 0), (3, vP 3 0), (4, vP 4 0), (5, .agg #[vN X, vN Y, vN Z, vS 2 L.length])])) (by kernel_rfl) ?_
  refine rW (m := ⟨[], [], [2]⟩) (v := .agg #[vN X, vN Y, vN Z]) rfl (by kernel_rfl) (stQ (args := [.agg #[vN X, vN Y, vN Z, vS 2 L.length]]) rfl (by kernel_rfl) (Any.lay0 [2] (boxB ((X : Nat) : Int) ((Y : Nat) : Int) ((Z : Nat) : Int) L) ⟨rdF false (flatA3 _ _ _ _) rfl rfl, trivial⟩ rfl ⟨clF (flatA3 _ _ _ _), trivial⟩ rfl (by first | rfl | simp [mpV, mpA, mpS, mpP, renId, shift]) (by first | rfl | simp [mpV, mpA, mpS, mpP, renId, shift])) rfl (by kernel_rfl) (by kernel_rfl)) (by kernel_rfl) nr0 ?_
  refine segWH 2 (T1 := (mkT 10 [(1, vP 0 0), (2, vP 1 0), (3, vP 3 0), (4, vP 4 0), (5, .agg #[vN X, vN Y, vN Z, vS 2 L.length]), (6, .agg #[vN X, vN Y, vN Z]), (7, .agg #[vI a, vI b, vI c]), (8, vI 0)])) (by kernel_rfl) ?_
  refine rW (m := ⟨[], [], []⟩) (v := .agg #[vI (((X : Nat) : Int) - 1 - a), vI b, vI c]) rfl (by kernel_rfl) (stQ (args := [.agg #[vN X, vN Y, vN Z], .agg #[vI a, vI b, vI c], vI 0]) rfl (by kernel_rfl) (Any.lay0 [] (mirror0 X Y Z a b c (by first | assumption | omega | rfl | decide | exact HeapL.list _ _ _ _ | exact HeapL.nil _ _ _ | exact HeapL.all _ _ _ | (apply HeapL.lt64 <;> assumption) | (repeat' (first | assumption | apply or_lt64 | apply and_lt64 | apply andn_lt64 | apply pow_lt64 | (apply HeapL.lt64 <;> assumption)))) (by first | assumption | omega | rfl | decide | exact HeapL.list _ _ _ _ | exact HeapL.nil _ _ _ | exact HeapL.all _ _ _ | (apply HeapL.lt64 <;> assumption) | (repeat' (first | assumption | apply or_lt64 | apply and_lt64 | apply andn_lt64 | apply pow_lt64 | (apply HeapL.lt64 <;> assumption))))) trivial rfl trivial rfl (by first | rfl | simp [mpV, mpA, mpS, mpP, renId, shift]) (by first | rfl | simp [mpV, mpA, mpS, mpP, renId, shift])) rfl (by kernel_rfl) (by kernel_rfl)) (by kernel_rfl) nr0 ?_
  refine rW (m := ⟨[], [4], []⟩) (v := .tuple #[]) rfl (by kernel_rfl) (stSet (b := 4) (r := ⟨[vI (((X : Nat) : Int) - 1 - a), vI b, vI c], 25, true, true⟩) (by kernel_rfl) rfl (by kernel_rfl) (by kernel_rfl) (by kernel_rfl) (by kernel_rfl) (nmX (by kernel_rfl)) (clX (by kernel_rfl))) (by kernel_rfl) (NRs.all ⟨nrOf (by rfl) (nmX (by kernel_rfl)), trivial⟩) ?_
  refine segEndW [4] (T1 := (mkT 10 [(4, vP 4 0)])) (H1 := [some ⟨[vN X, vN Y, vN Z, vS 2 L.length], 29, true, false⟩, some ⟨[vI 0], 3, true, false⟩, some ⟨a3s L, 25, false, false⟩, rB [vI a, vI b, vI c] 25, rB [vI (((X : Nat) : Int) - 1 - a), vI b, vI c] 25]) (by kernel_rfl) ?_
  refine kSeq ?_
  refine cRet ?_
  -- end
  exact endQ (Or.inr rfl) (l := [.agg #[vI (((X : Nat) : Int) - 1 - a), vI b, vI c]]) [rB [vI a, vI b, vI c] 25, rB [vI (((X : Nat) : Int) - 1 - a), vI b, vI c] 25] (by kernel_rfl) (by first | rfl | kernel_rfl) rfl rfl hcl rfl

set_option maxRecDepth 100000 in
set_option maxHeartbeats 4000000 in
theorem movedM0 (X : Nat) (Y : Nat) (Z : Nat) (L : List A3) (hs : Sides X Y Z) (hL : HeapL X Y Z L) : Sound Try.prog 84 [.agg #[vN X, vN Y, vN Z, vS 2 L.length], .agg #[vN X, vN Y, vN Z], .func (.func 89) #[] #[vP 0 0, vP 1 0]] [some ⟨[vN X, vN Y, vN Z, vS 2 L.length], 29, true, false⟩, some ⟨[vI 0], 3, true, false⟩, some ⟨a3s L, 25, false, false⟩] (.agg #[vN X, vN Y, vN Z, vS 3 ((listOf X Y Z (setOf Y Z (L.map (mir X Y Z 0)))).length)]) [some ⟨[vN X, vN Y, vN Z, vS 2 L.length], 29, true, false⟩, some ⟨[vI 0], 3, true, false⟩, some ⟨a3s L, 25, false, false⟩, some ⟨a3s (listOf X Y Z (setOf Y Z (L.map (mir X Y Z 0)))), 25, false, true⟩] := by
  refine sound_intro (C := cx) Try.func84 rfl (by kernel_rfl) fun hcl => ?_
  have hz := hs.size
  have hx0 := hs.x0
  have hx4 := hs.x4
  have hy0 := hs.y0
  have hy4 := hs.y4
  have hz0 := hs.z0
  have hz4 := hs.z4
  have hlen := hL.len
  have hlt := hL.lt64 hs
  refine cSeq ?_
  refine cReg ?_
  refine segEnd [2, 3, 4, 6] (T1 := (mkT 29 [(2, .func (.func 89) #[] #[vP 0 0, vP 1 0]), (3, vP 3 0), (4, vP 4 0), (6, vP 5 0)])) (H1 := [some ⟨[vN X, vN Y, vN Z, vS 2 L.length], 29, true, false⟩, some ⟨[vI 0], 3, true, false⟩, some ⟨a3s L, 25, false, false⟩, rB [vN X, vN Y, vN Z, vS 2 L.length] 29, rB [vN X, vN Y, vN Z] 60, rB [vI 0, vI 0, vI 0, .slice none 0 0] 29]) (by kernel_rfl) ?_
  refine kSeq ?_
  refine cSeq ?_
  refine cReg ?_
  refine segEndH [2, 3, 4, 6, 7] (T1 := (mkT 29 [(2, .func (.func 89) #[] #[vP 0 0, vP 1 0]), (3, vP 3 0), (4, vP 4 0), (6, vP 5 0), (7, vU 0)])) (by kernel_rfl) ?_
  refine kSeq ?_
  refine cSeq ?_
  refine cSeq ?_
  refine cReg ?_
  refine segEndH [2, 4, 6, 7, 11, 12, 13] (T1 := (mkT 29 [(2, .func (.func 89) #[] #[vP 0 0, vP 1 0]), (4, vP 4 0), (6, vP 5 0), (7, vU 0), (11, vS 2 L.length), (12, vN L.length), (13, vI 0)])) (by kernel_rfl) ?_
  refine kSeq ?_
  refine cBlk ?_
  -- loop
  refine cLoop (fun mm T H => ∃ i : Nat, ∃ s : Nat, (i ≤ L.length) ∧ (s = setOf Y Z ((L.take i).map (mir X Y Z 0))) ∧ mm = L.length - i ∧ T = (mkT 29 [(2, .func (.func 89) #[] #[vP 0 0, vP 1 0]), (4, vP 4 0), (6, vP 5 0), (7, vU s), (11, vS 2 L.length), (12, vN L.length), (13, vN i)]) ∧ H = [some ⟨[vN X, vN Y, vN Z, vS 2 L.length], 29, true, false⟩, some ⟨[vI 0], 3, true, false⟩, some ⟨a3s L, 25, false, false⟩, rB [vN X, vN Y, vN Z, vS 2 L.length] 29, rB [vN X, vN Y, vN Z] 60, rB [vI 0, vI 0, vI 0, .slice none 0 0] 29]) (L.length - 0) (mkT 29 [(2, .func (.func 89) #[] #[vP 0 0, vP 1 0]), (4, vP 4 0), (6, vP 5 0), (7, vU 0), (11, vS 2 L.length), (12, vN L.length), (13, vI 0)]) [some ⟨[vN X, vN Y, vN Z, vS 2 L.length], 29, true, false⟩, some ⟨[vI 0], 3, true, false⟩, some ⟨a3s L, 25, false, false⟩, rB [vN X, vN Y, vN Z, vS 2 L.length] 29, rB [vN X, vN Y, vN Z] 60, rB [vI 0, vI 0, vI 0, .slice none 0 0] 29] (wkSame [2, 4, 6, 7, 11, 12, 13] (by kernel_rfl)) ?_ ?_
  · exact ⟨0, 0, (Nat.zero_le _), (rfl), rfl, rfl, rfl⟩
  · rintro _ _ _ ⟨i, s, hi, hs1, rfl, rfl, rfl⟩
    have hslt : s < 18446744073709551616 := hs1 ▸ setOf_map_lt hs (fun d hd => mir_has (hL.mem_has hs hd)) i
    refine cSeq ?_
    refine cReg ?_
    refine segEndH [2, 4, 6, 7, 11, 12, 13, 14] (T1 := (mkT 29 [(2, .func (.func 89) #[] #[vP 0 0, vP 1 0]), (4, vP 4 0), (6, vP 5 0), (7, vU s), (11, vS 2 L.length), (12, vN L.length), (13, vN i), (14, .bool (decide (((i : Nat) : Int) < ((L.length : Nat) : Int))))])) (by kernel_rfl) ?_
    refine kSeq ?_
    refine cSeq ?_
    cases h1 : (decide (((i : Nat) : Int) < ((L.length : Nat) : Int)) : Bool)
    ·
      (try simp only [Bool.not_eq_true', Bool.not_eq_false', decide_eq_true_eq, decide_eq_false_iff_not, beq_iff_eq, bne_iff_ne, beq_eq_false_iff_ne, bne_eq_false_iff_eq, ne_eq, Decidable.not_not, Bool.and_eq_true, Bool.and_eq_false_imp, Bool.or_eq_true, Bool.or_eq_false_iff, Bool.not_eq_true, Int.not_lt, Int.not_le, ge_iff_le, gt_iff_lt] at h1)
      refine cFalse (by kernel_rfl) ?_
      refine cExit ?_
      refine kSeqE ?_
      refine kLoopE ?_
      refine kBlkHit ?_
      refine kSeq ?_
      refine cSeq ?_
      refine cReg ?_
      refine segH 2 (T1 := (mkT 29 [(2, .func (.func 89) #[] #[vP 0 0, vP 1 0]), (4, vP 4 0), (6, vP 5 0), (7, vU s), (11, vS 2 L.length), (12, vN L.length), (13, vN i), (14, .bool false), (26, .agg #[vN X, vN Y, vN Z]), (27, vU s)])) (by kernel_rfl) ?_
      refine rCall (v := .agg #[vN X, vN Y, vN Z, vS 6 ((listOf X Y Z s).length)]) (args := [.agg #[vN X, vN Y, vN Z], vU s]) (by kernel_rfl) rfl (by kernel_rfl) (Sound.lay (E := [some ⟨a3s (listOf X Y Z s), 25, false, true⟩]) [] (heapB X Y Z s (by first | assumption | omega | rfl | decide | exact HeapL.list _ _ _ _ | exact HeapL.nil _ _ _ | exact HeapL.all _ _ _ | (apply HeapL.lt64 <;> assumption) | (repeat' (first | assumption | apply or_lt64 | apply and_lt64 | apply andn_lt64 | apply pow_lt64 | (apply HeapL.lt64 <;> assumption)))) (by first | assumption | omega | rfl | decide | exact HeapL.list _ _ _ _ | exact HeapL.nil _ _ _ | exact HeapL.all _ _ _ | (apply HeapL.lt64 <;> assumption) | (repeat' (first | assumption | apply or_lt64 | apply and_lt64 | apply andn_lt64 | apply pow_lt64 | (apply HeapL.lt64 <;> assumption))))) trivial rfl trivial rfl (by first | rfl | simp [mpV, mpA, mpS, mpP, renId, shift]) (by first | rfl | simp [mpV, mpA, mpS, mpP, renId, shift]) ⟨enF (flatA3 _ _ _ _) (Or.inl rfl), trivial⟩) ?_
      refine segEnd [6] (T1 := (mkT 29 [(6, vP 5 0)])) (H1 := [some ⟨[vN X, vN Y, vN Z, vS 2 L.length], 29, true, false⟩, some ⟨[vI 0], 3, true, false⟩, some ⟨a3s L, 25, false, false⟩, rB [vN X, vN Y, vN Z, vS 2 L.length] 29, rB [vN X, vN Y, vN Z] 60, rB [vN X, vN Y, vN Z, vS 6 ((listOf X Y Z s).length)] 29, some ⟨a3s (listOf X Y Z s), 25, false, true⟩]) (by kernel_rfl) ?_
      refine kSeq ?_
      refine cRet ?_
      -- end
      have he0 : ((listOf X Y Z s) : List A3) = (listOf X Y Z (setOf Y Z (L.map (mir X Y Z 0)))) := by (rw [hs1, show i = L.length by omega, List.take_length])
      refine endCast (v1 := .agg #[vN X, vN Y, vN Z, vS 3 ((listOf X Y Z s).length)]) (H1 := [some ⟨[vN X, vN Y, vN Z, vS 2 L.length], 29, true, false⟩, some ⟨[vI 0], 3, true, false⟩, some ⟨a3s L, 25, false, false⟩, some ⟨a3s (listOf X Y Z s), 25, false, true⟩]) (by first | rfl | ((try rw [← he0]); done) | (simp only [← he0]; done)) (by first | rfl | ((try rw [← he0]); done) | (simp only [← he0]; done)) ?_
      exact endF (Or.inr rfl) (l := [.agg #[vN X, vN Y, vN Z, vS 6 ((listOf X Y Z s).length)]]) [0, 1, 2, 6] (by kernel_rfl) (by first | rfl | simp [packR, mpV, mpA, mpS, mpP, renId]) ⟨rrX rfl rfl, ⟨rrX rfl rfl, ⟨rrF (flatA3 _ _ _ _) rfl, ⟨rrF (flatA3 _ _ _ _) rfl, trivial⟩⟩⟩⟩ rfl rfl
    ·
      (try simp only [Bool.not_eq_true', Bool.not_eq_false', decide_eq_true_eq, decide_eq_false_iff_not, beq_iff_eq, bne_iff_ne, beq_eq_false_iff_ne, bne_eq_false_iff_eq, ne_eq, Decidable.not_not, Bool.and_eq_true, Bool.and_eq_false_imp, Bool.or_eq_true, Bool.or_eq_false_iff, Bool.not_eq_true, Int.not_lt, Int.not_le, ge_iff_le, gt_iff_lt] at h1)
      have hhas := hL.has hs (i := i) (by omega)
      have hmir := mir_has (d := 0) hhas
      have hidx := Nat.lt_of_lt_of_le (idx_lt hmir) hs.size
      simp only [mir] at hmir hidx
      refine cTrue (by kernel_rfl) ?_
      refine cSkip ?_
      refine kSeq ?_
      refine cSeq ?_
      refine cBlk ?_
      refine cSeq ?_
      refine cReg ?_
      refine rOp (v := vP 2 (i * 3)) (by kernel_rfl) (eIdxS (ad := ⟨2, 0, none⟩) (n := L.length) (m := 0) (k := .i64) (c := ((i : Nat) : Int)) (j := i) (o := i * 3) (by kernel_rfl) (by kernel_rfl) ti22 ti25 (rfl) (by omega) (by exact Nat.zero_add _)) ?_
      refine rOp (v := .agg #[vI ((L.getD i default).x), vI ((L.getD i default).y), vI ((L.getD i default).z)]) (by kernel_rfl) (eLdA3 (ad := ⟨2, i * 3, none⟩) (r := ⟨a3s L, 25, false, false⟩) (L := L) (j := i) (by kernel_rfl) (by kernel_rfl) rfl (by first | rfl | omega) (by omega) ti25) ?_
      refine segEnd [2, 4, 6, 7, 9, 11, 12, 13] (T1 := (mkT 29 [(2, .func (.func 89) #[] #[vP 0 0, vP 1 0]), (4, vP 4 0), (6, vP 5 0), (7, vU s), (9, vP 6 0), (11, vS 2 L.length), (12, vN L.length), (13, vN i)])) (H1 := [some ⟨[vN X, vN Y, vN Z, vS 2 L.length], 29, true, false⟩, some ⟨[vI 0], 3, true, false⟩, some ⟨a3s L, 25, false, false⟩, rB [vN X, vN Y, vN Z, vS 2 L.length] 29, rB [vN X, vN Y, vN Z] 60, rB [vI 0, vI 0, vI 0, .slice none 0 0] 29, rB [vI ((L.getD i default).x), vI ((L.getD i default).y), vI ((L.getD i default).z)] 25]) (by kernel_rfl) ?_
      refine kSeq ?_
      refine cRegW (N := 7) [⟨[], [], []⟩, ⟨[], [], [4]⟩, ⟨[], [], []⟩, ⟨[], [], [6]⟩, ⟨[], [], [0, 1, 2]⟩, ⟨[], [], []⟩, ⟨[], [], []⟩, ⟨[], [], []⟩, ⟨[], [], []⟩] 0 [] (by rfl) (by rfl) (by kernel_rfl) (by kernel_rfl) (by kernel_rfl) ⟨nmsX (by kernel_rfl), ⟨nmsX (by kernel_rfl), ⟨nmsF (flatA3 _ _ _ _), ⟨nmsX (by kernel_rfl), ⟨nmsX (by kernel_rfl), ⟨nmsX (by kernel_rfl), ⟨nmsX (by kernel_rfl), trivial⟩⟩⟩⟩⟩⟩⟩ ?_
      refine segWH 4 (T1 := (mkT 29 [(2, .func (.func 89) #[] #[vP 0 0, vP 1 0]), (4, vP 4 0), (6, vP 5 0), (7, vU s), (9, vP 6 0), (11, vS 2 L.length), (12, vN L.length), (13, vN i), (17, vU s), (18, .agg #[vN X, vN Y, vN Z]), (19, .func (.func 89) #[] #[vP 0 0, vP 1 0]), (20, .agg #[vI ((L.getD i default).x), vI ((L.getD i default).y), vI ((L.getD i default).z)])])) (by kernel_rfl) ?_
      refine rW (m := ⟨[], [], [0, 1, 2]⟩) (v := .agg #[vI (((X : Nat) : Int) - 1 - ((L.getD i default).x)), vI ((L.getD i default).y), vI ((L.getD i default).z)]) rfl (by kernel_rfl) (stQ (args := [.agg #[vI ((L.getD i default).x), vI ((L.getD i default).y), vI ((L.getD i default).z)], vP 0 0, vP 1 0]) rfl (by kernel_rfl) (Any.lay0 [0, 1, 2] (mirrorC0 X Y Z ((L.getD i default).x) ((L.getD i default).y) ((L.getD i default).z) L (by first | assumption | omega | rfl | decide | exact HeapL.list _ _ _ _ | exact HeapL.nil _ _ _ | exact HeapL.all _ _ _ | (apply HeapL.lt64 <;> assumption) | (repeat' (first | assumption | apply or_lt64 | apply and_lt64 | apply andn_lt64 | apply pow_lt64 | (apply HeapL.lt64 <;> assumption)))) (by first | assumption | omega | rfl | decide | exact HeapL.list _ _ _ _ | exact HeapL.nil _ _ _ | exact HeapL.all _ _ _ | (apply HeapL.lt64 <;> assumption) | (repeat' (first | assumption | apply or_lt64 | apply and_lt64 | apply andn_lt64 | apply pow_lt64 | (apply HeapL.lt64 <;> assumption))))) ⟨rdX false rfl rfl, ⟨rdX false rfl rfl, ⟨rdF false (flatA3 _ _ _ _) rfl rfl, trivial⟩⟩⟩ rfl ⟨clX rfl, ⟨clX rfl, ⟨clF (flatA3 _ _ _ _), trivial⟩⟩⟩ rfl (by first | rfl | simp [mpV, mpA, mpS, mpP, renId, shift]) (by first | rfl | simp [mpV, mpA, mpS, mpP, renId, shift])) rfl (by kernel_rfl) (by kernel_rfl)) (by kernel_rfl) nr0 ?_
      refine rW (m := ⟨[], [], []⟩) (v := vN (idxN Y Z (A3.mk (((X : Nat) : Int) - 1 - ((L.getD i default).x)) ((L.getD i default).y) ((L.getD i default).z)))) rfl (by kernel_rfl) (stQ (args := [.agg #[vN X, vN Y, vN Z], .agg #[vI (((X : Nat) : Int) - 1 - ((L.getD i default).x)), vI ((L.getD i default).y), vI ((L.getD i default).z)]]) rfl (by kernel_rfl) (Any.lay0 [] (indexB X Y Z (((X : Nat) : Int) - 1 - ((L.getD i default).x)) ((L.getD i default).y) ((L.getD i default).z) (by first | assumption | omega | rfl | decide | exact HeapL.list _ _ _ _ | exact HeapL.nil _ _ _ | exact HeapL.all _ _ _ | (apply HeapL.lt64 <;> assumption) | (repeat' (first | assumption | apply or_lt64 | apply and_lt64 | apply andn_lt64 | apply pow_lt64 | (apply HeapL.lt64 <;> assumption)))) (by first | assumption | omega | rfl | decide | exact HeapL.list _ _ _ _ | exact HeapL.nil _ _ _ | exact HeapL.all _ _ _ | (apply HeapL.lt64 <;> assumption) | (repeat' (first | assumption | apply or_lt64 | apply and_lt64 | apply andn_lt64 | apply pow_lt64 | (apply HeapL.lt64 <;> assumption))))) trivial rfl trivial rfl (by first | rfl | simp [mpV, mpA, mpS, mpP, renId, shift]) rfl) rfl (by kernel_rfl) (by kernel_rfl)) (by kernel_rfl) nr0 ?_
      refine rW (m := ⟨[], [], []⟩) (v := vU (2 ^ (idxN Y Z (A3.mk (((X : Nat) : Int) - 1 - ((L.getD i default).x)) ((L.getD i default).y) ((L.getD i default).z))))) rfl (by kernel_rfl) (stId (eShl (k := .u64) (a := 1) (b := ((idxN Y Z (A3.mk (((X : Nat) : Int) - 1 - ((L.getD i default).x)) ((L.getD i default).y) ((L.getD i default).z)) : Nat) : Int)) (k' := .i64) (c := ((2 ^ (idxN Y Z (A3.mk (((X : Nat) : Int) - 1 - ((L.getD i default).x)) ((L.getD i default).y) ((L.getD i default).z))) : Nat) : Int)) (by kernel_rfl) (by kernel_rfl) (by omega) (shl1 _ (by omega))) rfl (by kernel_rfl) (by kernel_rfl) (by kernel_rfl)) (by kernel_rfl) nr0 ?_
      refine rW (m := ⟨[], [], []⟩) (v := vU (s ||| (2 ^ (idxN Y Z (A3.mk (((X : Nat) : Int) - 1 - ((L.getD i default).x)) ((L.getD i default).y) ((L.getD i default).z)))))) rfl (by kernel_rfl) (stId (eOp (k := .u64) (a := ((s : Nat) : Int)) (b := ((2 ^ (idxN Y Z (A3.mk (((X : Nat) : Int) - 1 - ((L.getD i default).x)) ((L.getD i default).y) ((L.getD i default).z))) : Nat) : Int)) (by kernel_rfl) (by kernel_rfl) ⟨by decide, by decide⟩ (orU s (2 ^ (idxN Y Z (A3.mk (((X : Nat) : Int) - 1 - ((L.getD i default).x)) ((L.getD i default).y) ((L.getD i default).z)))) (by first | assumption | omega | (repeat' (first | assumption | omega | apply or_lt64 | apply and_lt64 | apply andn_lt64 | apply pow_lt64 | (apply HeapL.lt64 <;> assumption)))) (by first | assumption | omega | (repeat' (first | assumption | omega | apply or_lt64 | apply and_lt64 | apply andn_lt64 | apply pow_lt64 | (apply HeapL.lt64 <;> assumption)))))) rfl (by kernel_rfl) (by kernel_rfl) (by kernel_rfl)) (by kernel_rfl) nr0 ?_
      refine segEndWH [2, 4, 6, 7, 11, 12, 13] (T1 := (mkT 29 [(2, .func (.func 89) #[] #[vP 0 0, vP 1 0]), (4, vP 4 0), (6, vP 5 0), (7, vU (s ||| (2 ^ (idxN Y Z (A3.mk (((X : Nat) : Int) - 1 - ((L.getD i default).x)) ((L.getD i default).y) ((L.getD i default).z)))))), (11, vS 2 L.length), (12, vN L.length), (13, vN i)])) (by kernel_rfl) ?_
      refine kBlk ?_
      refine kSeq ?_
      refine cReg ?_
      refine rOp (v := vN (i + 1)) (by kernel_rfl) (eAdd (k := .i64) (a := ((i : Nat) : Int)) (b := 1) (c := ((i + 1 : Nat) : Int)) (by kernel_rfl) (by kernel_rfl) (wr64 (by omega) (by omega) (by omega))) ?_
      refine segEndH [2, 4, 6, 7, 11, 12, 13] (T1 := (mkT 29 [(2, .func (.func 89) #[] #[vP 0 0, vP 1 0]), (4, vP 4 0), (6, vP 5 0), (7, vU (s ||| (2 ^ (idxN Y Z (A3.mk (((X : Nat) : Int) - 1 - ((L.getD i default).x)) ((L.getD i default).y) ((L.getD i default).z)))))), (11, vS 2 L.length), (12, vN L.length), (13, vN (i + 1))])) (by kernel_rfl) ?_
      exact kLoop (L.length - (i + 1)) (mkT 29 [(2, .func (.func 89) #[] #[vP 0 0, vP 1 0]), (4, vP 4 0), (6, vP 5 0), (7, vU (s ||| (2 ^ (idxN Y Z (A3.mk (((X : Nat) : Int) - 1 - ((L.getD i default).x)) ((L.getD i default).y) ((L.getD i default).z)))))), (11, vS 2 L.length), (12, vN L.length), (13, vN (i + 1))]) [some ⟨[vN X, vN Y, vN Z, vS 2 L.length], 29, true, false⟩, some ⟨[vI 0], 3, true, false⟩, some ⟨a3s L, 25, false, false⟩, rB [vN X, vN Y, vN Z, vS 2 L.length] 29, rB [vN X, vN Y, vN Z] 60, rB [vI 0, vI 0, vI 0, .slice none 0 0] 29] (by omega) (wkDrop [2, 4, 6, 7, 11, 12, 13] _ rfl rfl ((closedL ⟨clX rfl, ⟨clX rfl, ⟨clF (flatA3 _ _ _ _), ⟨clX rfl, ⟨clX rfl, ⟨clX rfl, trivial⟩⟩⟩⟩⟩⟩)) (by kernel_rfl) rfl) ⟨(i + 1), (s ||| (2 ^ (idxN Y Z (A3.mk (((X : Nat) : Int) - 1 - ((L.getD i default).x)) ((L.getD i default).y) ((L.getD i default).z))))), (by omega), (by rw [hs1]; exact (setOf_map_take (by omega)).symm), rfl, rfl, rfl⟩

set_option maxRecDepth 100000 in
set_option maxHeartbeats 4000000 in
theorem mirror1 (X : Nat) (Y : Nat) (Z : Nat) (a : Int) (b : Int) (c : Int) (hs : Sides X Y Z) (hh : has3 (X : Int) (Y : Int) (Z : Int) a b c = true) : Sound Try.prog 90 [.agg #[vN X, vN Y, vN Z], .agg #[vI a, vI b, vI c], vI 1] [] (.agg #[vI a, vI (((Y : Nat) : Int) - 1 - b), vI c]) [] := by
  refine sound_intro (C := cx) Try.func90 rfl (by kernel_rfl) fun hcl => ?_
  have hz := hs.size
  have hx0 := hs.x0
  have hx4 := hs.x4
  have hy0 := hs.y0
  have hy4 := hs.y4
  have hz0 := hs.z0
  have hz4 := hs.z4
  have hh3 := (has3_iff (c := A3.mk a b c)).1 hh
  simp only at hh3
  refine cSeq ?_
  refine cReg ?_
  refine segEnd [2, 3, 4, 6] (T1 := (mkT 18 [(2, vI 1), (3, vP 0 0), (4, vP 1 0), (6, vP 2 0)])) (H1 := [rB [vN X, vN Y, vN Z] 60, rB [vI a, vI b, vI c] 25, rB [vI 0, vI 0, vI 0] 25]) (by kernel_rfl) ?_
  refine kSeq ?_
  refine cSeq ?_
  refine cRegW (N := 3) [⟨[], [], []⟩, ⟨[], [], []⟩, ⟨[], [], []⟩, ⟨[], [], [0]⟩, ⟨[], [], []⟩, ⟨[], [], []⟩, ⟨[], [], []⟩, ⟨[], [], [1]⟩, ⟨[], [], []⟩, ⟨[], [], []⟩, ⟨[], [1], []⟩] 0 [] (by rfl) (by rfl) (by kernel_rfl) (by kernel_rfl) (by kernel_rfl) ⟨nmsX (by kernel_rfl), ⟨nmsX (by kernel_rfl), ⟨nmsX (by kernel_rfl), trivial⟩⟩⟩ ?_
  refine segWH 4 (T1 := (mkT 18 [(2, vI 1), (3, vP 0 0), (4, vP 1 0), (6, vP 2 0), (7, vI 1), (8, vI 1), (9, vP 0 1), (10, vN Y)])) (by kernel_rfl) ?_
  refine rW (m := ⟨[], [], []⟩) (v := vI (((Y : Nat) : Int) - 1)) rfl (by kernel_rfl) (stId (eSub (k := .i64) (a := ((Y : Nat) : Int)) (b := 1) (c := (((Y : Nat) : Int) - 1)) (by kernel_rfl) (by kernel_rfl) (wr64 (by omega) (by omega) (by omega))) rfl (by kernel_rfl) (by kernel_rfl) (by kernel_rfl)) (by kernel_rfl) nr0 ?_
  refine segWH 3 (T1 := (mkT 18 [(2, vI 1), (3, vP 0 0), (4, vP 1 0), (6, vP 2 0), (7, vI 1), (8, vI 1), (9, vP 0 1), (10, vN Y), (11, vI (((Y : Nat) : Int) - 1)), (12, vI 1), (13, vP 1 1), (14, vI b)])) (by kernel_rfl) ?_
  refine rW (m := ⟨[], [], []⟩) (v := vI (((Y : Nat) : Int) - 1 - b)) rfl (by kernel_rfl) (stId (eSub (k := .i64) (a := (((Y : Nat) : Int) - 1)) (b := b) (c := (((Y : Nat) : Int) - 1 - b)) (by kernel_rfl) (by kernel_rfl) (wr64 (by omega) (by omega) (by omega))) rfl (by kernel_rfl) (by kernel_rfl) (by kernel_rfl)) (by kernel_rfl) nr0 ?_
  refine segWH 1 (T1 := (mkT 18 [(2, vI 1), (3, vP 0 0), (4, vP 1 0), (6, vP 2 0), (7, vI 1), (8, vI 1), (9, vP 0 1), (10, vN Y), (11, vI (((Y : Nat) : Int) - 1)), (12, vI 1), (13, vP 1 1), (14, vI b), (15, vI (((Y : Nat) : Int) - 1 - b)), (16, vP 1 1)])) (by kernel_rfl) ?_
  refine rW (m := ⟨[], [1], []⟩) (v := .tuple #[]) rfl (by kernel_rfl) (stSet (b := 1) (r := ⟨[vI a, vI (((Y : Nat) : Int) - 1 - b), vI c], 25, true, true⟩) (by kernel_rfl) rfl (by kernel_rfl) (by kernel_rfl) (by kernel_rfl) (by kernel_rfl) (nmX (by kernel_rfl)) (clX (by kernel_rfl))) (by kernel_rfl) (NRs.all ⟨nrOf (by rfl) (nmX (by kernel_rfl)), trivial⟩) ?_
  refine segEndW [4, 6] (T1 := (mkT 18 [(4, vP 1 0), (6, vP 2 0)])) (H1 := [rB [vN X, vN Y, vN Z] 60, rB [vI a, vI (((Y : Nat) : Int) - 1 - b), vI c] 25, rB [vI 0, vI 0, vI 0] 25]) (by kernel_rfl) ?_
  refine kSeq ?_
  refine cSeq ?_
  refine cReg ?_
  refine segEnd [6] (T1 := (mkT 18 [(6, vP 2 0)])) (H1 := [rB [vN X, vN Y, vN Z] 60, rB [vI a, vI (((Y : Nat) : Int) - 1 - b), vI c] 25, rB [vI a, vI (((Y : Nat) : Int) - 1 - b), vI c] 25]) (by kernel_rfl) ?_
  refine kSeq ?_
  refine cRet ?_
  -- end
  exact endQ (Or.inr rfl) (l := [.agg #[vI a, vI (((Y : Nat) : Int) - 1 - b), vI c]]) [rB [vN X, vN Y, vN Z] 60, rB [vI a, vI (((Y : Nat) : Int) - 1 - b), vI c] 25, rB [vI a, vI (((Y : Nat) : Int) - 1 - b), vI c] 25] (by kernel_rfl) (by first | rfl | kernel_rfl) rfl rfl hcl rfl

set_option maxRecDepth 100000 in
set_option maxHeartbeats 4000000 in
theorem mirrorC1 (X : Nat) (Y : Nat) (Z : Nat) (a : Int) (b : Int) (c : Int) (L : List A3) (hs : Sides X Y Z) (hh : has3 (X : Int) (Y : Int) (Z : Int) a b c = true) : Sound Try.prog 89 [.agg #[vI a, vI b, vI c], vP 0 0, vP 1 0] [some ⟨[vN X, vN Y, vN Z, vS 2 L.length], 29, true, false⟩, some ⟨[vI 1], 3, true, false⟩, some ⟨a3s L, 25, false, false⟩] (.agg #[vI a, vI (((Y : Nat) : Int) - 1 - b), vI c]) [some ⟨[vN X, vN Y, vN Z, vS 2 L.length], 29, true, false⟩, some ⟨[vI 1], 3, true, false⟩, some ⟨a3s L, 25, false, false⟩] := by
  refine sound_intro (C := cx) Try.func89 rfl (by kernel_rfl) fun hcl => ?_
  refine cSeq ?_
  refine cReg ?_
  refine segEnd [1, 2, 3, 4] (T1 := (mkT 10 [(1, vP 0 0), (2, vP 1 0), (3, vP 3 0), (4, vP 4 0)])) (H1 := [some ⟨[vN X, vN Y, vN Z, vS 2 L.length], 29, true, false⟩, some ⟨[vI 1], 3, true, false⟩, some ⟨a3s L, 25, false, false⟩, rB [vI a, vI b, vI c] 25, rB [vI 0, vI 0, vI 0] 25]) (by kernel_rfl) ?_
  refine kSeq ?_
  refine cSeq ?_
  refine cRegW (N := 5) [⟨[], [], [0]⟩, ⟨[], [], [2]⟩, ⟨[], [], [3]⟩, ⟨[], [], [1]⟩, ⟨[], [], []⟩, ⟨[], [4], []⟩] 0 [] (by rfl) (by rfl) (by kernel_rfl) (by kernel_rfl) (by kernel_rfl) ⟨nmsX (by kernel_rfl), ⟨nmsX (by kernel_rfl), ⟨nmsF (flatA3 _ _ _ _), ⟨nmsX (by kernel_rfl), ⟨nmsX (by kernel_rfl), trivial⟩⟩⟩⟩⟩ ?_
  refine segWH 1 (T1 := (mkT 10 [(1, vP 0 0), (2, vP 1 0), (3, vP 3 0), (4, vP 4 0), (5, .agg #[vN X, vN Y, vN Z, vS 2 L.length])])) (by kernel_rfl) ?_
  refine rW (m := ⟨[], [], [2]⟩) (v := .agg #[vN X, vN Y, vN Z]) rfl (by kernel_rfl) (stQ (args := [.agg #[vN X, vN Y, vN Z, vS 2 L.length]]) rfl (by kernel_rfl) (Any.lay0 [2] (boxB ((X : Nat) : Int) ((Y : Nat) : Int) ((Z : Nat) : Int) L) ⟨rdF false (flatA3 _ _ _ _) rfl rfl, trivial⟩ rfl ⟨clF (flatA3 _ _ _ _), trivial⟩ rfl (by first | rfl | simp [mpV, mpA, mpS, mpP, renId, shift]) (by first | rfl | simp [mpV, mpA, mpS, mpP, renId, shift])) rfl (by kernel_rfl) (by kernel_rfl)) (by kernel_rfl) nr0 ?_
  refine segWH 2 (T1 := (mkT 10 [(1, vP 0 0), (2, vP 1 0), (3, vP 3 0), (4, vP 4 0), (5, .agg #[vN X, vN Y, vN Z, vS 2 L.length]), (6, .agg #[vN X, vN Y, vN Z]), (7, .agg #[vI a, vI b, vI c]), (8, vI 1)])) (by kernel_rfl) ?_
  refine rW (m := ⟨[], [], []⟩) (v := .agg #[vI a, vI (((Y : Nat) : Int) - 1 - b), vI c]) rfl (by kernel_rfl) (stQ (args := [.agg #[vN X, vN Y, vN Z], .agg #[vI a, vI b, vI c], vI 1]) rfl (by kernel_rfl) (Any.lay0 [] (mirror1 X Y Z a b c (by first | assumption | omega | rfl | decide | exact HeapL.list _ _ _ _ | exact HeapL.nil _ _ _ | exact HeapL.all _ _ _ | (apply HeapL.lt64 <;> assumption) | (repeat' (first | assumption | apply or_lt64 | apply and_lt64 | apply andn_lt64 | apply pow_lt64 | (apply HeapL.lt64 <;> assumption)))) (by first | assumption | omega | rfl | decide | exact HeapL.list _ _ _ _ | exact HeapL.nil _ _ _ | exact HeapL.all _ _ _ | (apply HeapL.lt64 <;> assumption) | (repeat' (first | assumption | apply or_lt64 | apply and_lt64 | apply andn_lt64 | apply pow_lt64 | (apply HeapL.lt64 <;> assumption))))) trivial rfl trivial rfl (by first | rfl | simp [mpV, mpA, mpS, mpP, renId, shift]) (by first | rfl | simp [mpV, mpA, mpS, mpP, renId, shift])) rfl (by kernel_rfl) (by kernel_rfl)) (by kernel_rfl) nr0 ?_
  refine rW (m := ⟨[], [4], []⟩) (v := .tuple #[]) rfl (by kernel_rfl) (stSet (b := 4) (r := ⟨[vI a, vI (((Y : Nat) : Int) - 1 - b), vI c], 25, true, true⟩) (by kernel_rfl) rfl (by kernel_rfl) (by kernel_rfl) (by kernel_rfl) (by kernel_rfl) (nmX (by kernel_rfl)) (clX (by kernel_rfl))) (by kernel_rfl) (NRs.all ⟨nrOf (by rfl) (nmX (by kernel_rfl)), trivial⟩) ?_
  refine segEndW [4] (T1 := (mkT 10 [(4, vP 4 0)])) (H1 := [some ⟨[vN X, vN Y, vN Z, vS 2 L.length], 29, true, false⟩, some ⟨[vI 1], 3, true, false⟩, some ⟨a3s L, 25, false, false⟩, rB [vI a, vI b, vI c] 25, rB [vI a, vI (((Y : Nat) : Int) - 1 - b), vI c] 25]) (by kernel_rfl) ?_
  refine kSeq ?_
  refine cRet ?_
  -- end
  exact endQ (Or.inr rfl) (l := [.agg #[vI a, vI (((Y : Nat) : Int) - 1 - b), vI c]]) [rB [vI a, vI b, vI c] 25, rB [vI a, vI (((Y : Nat) : Int) - 1 - b), vI c] 25] (by kernel_rfl) (by first | rfl | kernel_rfl) rfl rfl hcl rfl

set_option maxRecDepth 100000 in
set_option maxHeartbeats 4000000 in
theorem movedM1 (X : Nat) (Y : Nat) (Z : Nat) (L : List A3) (hs : Sides X Y Z) (hL : HeapL X Y Z L) : Sound Try.prog 84 [.agg #[vN X, vN Y, vN Z, vS 2 L.length], .agg #[vN X, vN Y, vN Z], .func (.func 89) #[] #[vP 0 0, vP 1 0]] [some ⟨[vN X, vN Y, vN Z, vS 2 L.length], 29, true, false⟩, some ⟨[vI 1], 3, true, false⟩, some ⟨a3s L, 25, false, false⟩] (.agg #[vN X, vN Y, vN Z, vS 3 ((listOf X Y Z (setOf Y Z (L.map (mir X Y Z 1)))).length)]) [some ⟨[vN X, vN Y, vN Z, vS 2 L.length], 29, true, false⟩, some ⟨[vI 1], 3, true, false⟩, some ⟨a3s L, 25, false, false⟩, some ⟨a3s (listOf X Y Z (setOf Y Z (L.map (mir X Y Z 1)))), 25, false, true⟩] := by
  refine sound_intro (C := cx) Try.func84 rfl (by kernel_rfl) fun hcl => ?_
  have hz := hs.size
  have hx0 := hs.x0
  have hx4 := hs.x4
  have hy0 := hs.y0
  have hy4 := hs.y4
  have hz0 := hs.z0
  have hz4 := hs.z4
  have hlen := hL.len
  have hlt := hL.lt64 hs
  refine cSeq ?_
  refine cReg ?_
  refine segEnd [2, 3, 4, 6] (T1 := (mkT 29 [(2, .func (.func 89) #[] #[vP 0 0, vP 1 0]), (3, vP 3 0), (4, vP 4 0), (6, vP 5 0)])) (H1 := [some ⟨[vN X, vN Y, vN Z, vS 2 L.length], 29, true, false⟩, some ⟨[vI 1], 3, true, false⟩, some ⟨a3s L, 25, false, false⟩, rB [vN X, vN Y, vN Z, vS 2 L.length] 29, rB [vN X, vN Y, vN Z] 60, rB [vI 0, vI 0, vI 0, .slice none 0 0] 29]) (by kernel_rfl) ?_
  refine kSeq ?_
  refine cSeq ?_
  refine cReg ?_
  refine segEndH [2, 3, 4, 6, 7] (T1 := (mkT 29 [(2, .func (.func 89) #[] #[vP 0 0, vP 1 0]), (3, vP 3 0), (4, vP 4 0), (6, vP 5 0), (7, vU 0)])) (by kernel_rfl) ?_
  refine kSeq ?_
  refine cSeq ?_
  refine cSeq ?_
  refine cReg ?_
  refine segEndH [2, 4, 6, 7, 11, 12, 13] (T1 := (mkT 29 [(2, .func (.func 89) #[] #[vP 0 0, vP 1 0]), (4, vP 4 0), (6, vP 5 0), (7, vU 0), (11, vS 2 L.length), (12, vN L.length), (13, vI 0)])) (by kernel_rfl) ?_
  refine kSeq ?_
  refine cBlk ?_
  -- loop
  refine cLoop (fun mm T H => ∃ i : Nat, ∃ s : Nat, (i ≤ L.length) ∧ (s = setOf Y Z ((L.take i).map (mir X Y Z 1))) ∧ mm = L.length - i ∧ T = (mkT 29 [(2, .func (.func 89) #[] #[vP 0 0, vP 1 0]), (4, vP 4 0), (6, vP 5 0), (7, vU s), (11, vS 2 L.length), (12, vN L.length), (13, vN i)]) ∧ H = [some ⟨[vN X, vN Y, vN Z, vS 2 L.length], 29, true, false⟩, some ⟨[vI 1], 3, true, false⟩, some ⟨a3s L, 25, false, false⟩, rB [vN X, vN Y, vN Z, vS 2 L.length] 29, rB [vN X, vN Y, vN Z] 60, rB [vI 0, vI 0, vI 0, .slice none 0 0] 29]) (L.length - 0) (mkT 29 [(2, .func (.func 89) #[] #[vP 0 0, vP 1 0]), (4, vP 4 0), (6, vP 5 0), (7, vU 0), (11, vS 2 L.length), (12, vN L.length), (13, vI 0)]) [some ⟨[vN X, vN Y, vN Z, vS 2 L.length], 29, true, false⟩, some ⟨[vI 1], 3, true, false⟩, some ⟨a3s L, 25, false, false⟩, rB [vN X, vN Y, vN Z, vS 2 L.length] 29, rB [vN X, vN Y, vN Z] 60, rB [vI 0, vI 0, vI 0, .slice none 0 0] 29] (wkSame [2, 4, 6, 7, 11, 12, 13] (by kernel_rfl)) ?_ ?_
  · exact ⟨0, 0, (Nat.zero_le _), (rfl), rfl, rfl, rfl⟩
  · rintro _ _ _ ⟨i, s, hi, hs1, rfl, rfl, rfl⟩
    have hslt : s < 18446744073709551616 := hs1 ▸ setOf_map_lt hs (fun d hd => mir_has (hL.mem_has hs hd)) i
    refine cSeq ?_
    refine cReg ?_
    refine segEndH [2, 4, 6, 7, 11, 12, 13, 14] (T1 := (mkT 29 [(2, .func (.func 89) #[] #[vP 0 0, vP 1 0]), (4, vP 4 0), (6, vP 5 0), (7, vU s), (11, vS 2 L.length), (12, vN L.length), (13, vN i), (14, .bool (decide (((i : Nat) : Int) < ((L.length : Nat) : Int))))])) (by kernel_rfl) ?_
    refine kSeq ?_
    refine cSeq ?_
    cases h1 : (decide (((i : Nat) : Int) < ((L.length : Nat) : Int)) : Bool)
    ·
      (try simp only [Bool.not_eq_true', Bool.not_eq_false', decide_eq_true_eq, decide_eq_false_iff_not, beq_iff_eq, bne_iff_ne, beq_eq_false_iff_ne, bne_eq_false_iff_eq, ne_eq, Decidable.not_not, Bool.and_eq_true, Bool.and_eq_false_imp, Bool.or_eq_true, Bool.or_eq_false_iff, Bool.not_eq_true, Int.not_lt, Int.not_le, ge_iff_le, gt_iff_lt] at h1)
      refine cFalse (by kernel_rfl) ?_
      refine cExit ?_
      refine kSeqE ?_
      refine kLoopE ?_
      refine kBlkHit ?_
      refine kSeq ?_
      refine cSeq ?_
      refine cReg ?_
      refine segH 2 (T1 := (mkT 29 [(2, .func (.func 89) #[] #[vP 0 0, vP 1 0]), (4, vP 4 0), (6, vP 5 0), (7, vU s), (11, vS 2 L.length), (12, vN L.length), (13, vN i), (14, .bool false), (26, .agg #[vN X, vN Y, vN Z]), (27, vU s)])) (by kernel_rfl) ?_
      refine rCall (v := .agg #[vN X, vN Y, vN Z, vS 6 ((listOf X Y Z s).length)]) (args := [.agg #[vN X, vN Y, vN Z], vU s]) (by kernel_rfl) rfl (by kernel_rfl) (Sound.lay (E := [some ⟨a3s (listOf X Y Z s), 25, false, true⟩]) [] (heapB X Y Z s (by first | assumption | omega | rfl | decide | exact HeapL.list _ _ _ _ | exact HeapL.nil _ _ _ | exact HeapL.all _ _ _ | (apply HeapL.lt64 <;> assumption) | (repeat' (first | assumption | apply or_lt64 | apply and_lt64 | apply andn_lt64 | apply pow_lt64 | (apply HeapL.lt64 <;> assumption)))) (by first | assumption | omega | rfl | decide | exact HeapL.list _ _ _ _ | exact HeapL.nil _ _ _ | exact HeapL.all _ _ _ | (apply HeapL.lt64 <;> assumption) | (repeat' (first | assumption | apply or_lt64 | apply and_lt64 | apply andn_lt64 | apply pow_lt64 | (apply HeapL.lt64 <;> assumption))))) trivial rfl trivial rfl (by first | rfl | simp [mpV, mpA, mpS, mpP, renId, shift]) (by first | rfl | simp [mpV, mpA, mpS, mpP, renId, shift]) ⟨enF (flatA3 _ _ _ _) (Or.inl rfl), trivial⟩) ?_
      refine segEnd [6] (T1 := (mkT 29 [(6, vP 5 0)])) (H1 := [some ⟨[vN X, vN Y, vN Z, vS 2 L.length], 29, true, false⟩, some ⟨[vI 1], 3, true, false⟩, some ⟨a3s L, 25, false, false⟩, rB [vN X, vN Y, vN Z, vS 2 L.length] 29, rB [vN X, vN Y, vN Z] 60, rB [vN X, vN Y, vN Z, vS 6 ((listOf X Y Z s).length)] 29, some ⟨a3s (listOf X Y Z s), 25, false, true⟩]) (by kernel_rfl) ?_
      refine kSeq ?_
      refine cRet ?_
      -- end
      have he0 : ((listOf X Y Z s) : List A3) = (listOf X Y Z (setOf Y Z (L.map (mir X Y Z 1)))) := by (rw [hs1, show i = L.length by omega, List.take_length])
      refine endCast (v1 := .agg #[vN X, vN Y, vN Z, vS 3 ((listOf X Y Z s).length)]) (H1 := [some ⟨[vN X, vN Y, vN Z, vS 2 L.length], 29, true, false⟩, some ⟨[vI 1], 3, true, false⟩, some ⟨a3s L, 25, false, false⟩, some ⟨a3s (listOf X Y Z s), 25, false, true⟩]) (by first | rfl | ((try rw [← he0]); done) | (simp only [← he0]; done)) (by first | rfl | ((try rw [← he0]); done) | (simp only [← he0]; done)) ?_
      exact endF (Or.inr rfl) (l := [.agg #[vN X, vN Y, vN Z, vS 6 ((listOf X Y Z s).length)]]) [0, 1, 2, 6] (by kernel_rfl) (by first | rfl | simp [packR, mpV, mpA, mpS, mpP, renId]) ⟨rrX rfl rfl, ⟨rrX rfl rfl, ⟨rrF (flatA3 _ _ _ _) rfl, ⟨rrF (flatA3 _ _ _ _) rfl, trivial⟩⟩⟩⟩ rfl rfl
    ·
      (try simp only [Bool.not_eq_true', Bool.not_eq_false', decide_eq_true_eq, decide_eq_false_iff_not, beq_iff_eq, bne_iff_ne, beq_eq_false_iff_ne, bne_eq_false_iff_eq, ne_eq, Decidable.not_not, Bool.and_eq_true, Bool.and_eq_false_imp, Bool.or_eq_true, Bool.or_eq_false_iff, Bool.not_eq_true, Int.not_lt, Int.not_le, ge_iff_le, gt_iff_lt] at h1)
      have hhas := hL.has hs (i := i) (by omega)
      have hmir := mir_has (d := 1) hhas
      have hidx := Nat.lt_of_lt_of_le (idx_lt hmir) hs.size
      simp only [mir] at hmir hidx
      refine cTrue (by kernel_rfl) ?_
      refine cSkip ?_
      refine kSeq ?_
      refine cSeq ?_
      refine cBlk ?_
      refine cSeq ?_
      refine cReg ?_
      refine rOp (v := vP 2 (i * 3)) (by kernel_rfl) (eIdxS (ad := ⟨2, 0, none⟩) (n := L.length) (m := 0) (k := .i64) (c := ((i : Nat) : Int)) (j := i) (o := i * 3) (by kernel_rfl) (by kernel_rfl) ti22 ti25 (rfl) (by omega) (by exact Nat.zero_add _)) ?_
      refine rOp (v := .agg #[vI ((L.getD i default).x), vI ((L.getD i default).y), vI ((L.getD i default).z)]) (by kernel_rfl) (eLdA3 (ad := ⟨2, i * 3, none⟩) (r := ⟨a3s L, 25, false, false⟩) (L := L) (j := i) (by kernel_rfl) (by kernel_rfl) rfl (by first | rfl | omega) (by omega) ti25) ?_
      refine segEnd [2, 4, 6, 7, 9, 11, 12, 13] (T1 := (mkT 29 [(2, .func (.func 89) #[] #[vP 0 0, vP 1 0]), (4, vP 4 0), (6, vP 5 0), (7, vU s), (9, vP 6 0), (11, vS 2 L.length), (12, vN L.length), (13, vN i)])) (H1 := [some ⟨[vN X, vN Y, vN Z, vS 2 L.length], 29, true, false⟩, some ⟨[vI 1], 3, true, false⟩, some ⟨a3s L, 25, false, false⟩, rB [vN X, vN Y, vN Z, vS 2 L.length] 29, rB [vN X, vN Y, vN Z] 60, rB [vI 0, vI 0, vI 0, .slice none 0 0] 29, rB [vI ((L.getD i default).x), vI ((L.getD i default).y), vI ((L.getD i default).z)] 25]) (by kernel_rfl) ?_
      refine kSeq ?_
      refine cRegW (N := 7) [⟨[], [], []⟩, ⟨[], [], [4]⟩, ⟨[], [], []⟩, ⟨[], [], [6]⟩, ⟨[], [], [0, 1, 2]⟩, ⟨[], [], []⟩, ⟨[], [], []⟩, ⟨[], [], []⟩, ⟨[], [], []⟩] 0 [] (by rfl) (by rfl) (by kernel_rfl) (by kernel_rfl) (by kernel_rfl) ⟨nmsX (by kernel_rfl), ⟨nmsX (by kernel_rfl), ⟨nmsF (flatA3 _ _ _ _), ⟨nmsX (by kernel_rfl), ⟨nmsX (by kernel_rfl), ⟨nmsX (by kernel_rfl), ⟨nmsX (by kernel_rfl), trivial⟩⟩⟩⟩⟩⟩⟩ ?_
      refine segWH 4 (T1 := (mkT 29 [(2, .func (.func 89) #[] #[vP 0 0, vP 1 0]), (4, vP 4 0), (6, vP 5 0), (7, vU s), (9, vP 6 0), (11, vS 2 L.length), (12, vN L.length), (13, vN i), (17, vU s), (18, .agg #[vN X, vN Y, vN Z]), (19, .func (.func 89) #[] #[vP 0 0, vP 1 0]), (20, .agg #[vI ((L.getD i default).x), vI ((L.getD i default).y), vI ((L.getD i default).z)])])) (by kernel_rfl) ?_
      refine rW (m := ⟨[], [], [0, 1, 2]⟩) (v := .agg #[vI ((L.getD i default).x), vI (((Y : Nat) : Int) - 1 - ((L.getD i default).y)), vI ((L.getD i default).z)]) rfl (by kernel_rfl) (stQ (args := [.agg #[vI ((L.getD i default).x), vI ((L.getD i default).y), vI ((L.getD i default).z)], vP 0 0, vP 1 0]) rfl (by kernel_rfl) (Any.lay0 [0, 1, 2] (mirrorC1 X Y Z ((L.getD i default).x) ((L.getD i default).y) ((L.getD i default).z) L (by first | assumption | omega | rfl | decide | exact HeapL.list _ _ _ _ | exact HeapL.nil _ _ _ | exact HeapL.all _ _ _ | (apply HeapL.lt64 <;> assumption) | (repeat' (first | assumption | apply or_lt64 | apply and_lt64 | apply andn_lt64 | apply pow_lt64 | (apply HeapL.lt64 <;> assumption)))) (by first | assumption | omega | rfl | decide | exact HeapL.list _ _ _ _ | exact HeapL.nil _ _ _ | exact HeapL.all _ _ _ | (apply HeapL.lt64 <;> assumption) | (repeat' (first | assumption | apply or_lt64 | apply and_lt64 | apply andn_lt64 | apply pow_lt64 | (apply HeapL.lt64 <;> assumption))))) ⟨rdX false rfl rfl, ⟨rdX false rfl rfl, ⟨rdF false (flatA3 _ _ _ _) rfl rfl, trivial⟩⟩⟩ rfl ⟨clX rfl, ⟨clX rfl, ⟨clF (flatA3 _ _ _ _), trivial⟩⟩⟩ rfl (by first | rfl | simp [mpV, mpA, mpS, mpP, renId, shift]) (by first | rfl | simp [mpV, mpA, mpS, mpP, renId, shift])) rfl (by kernel_rfl) (by kernel_rfl)) (by kernel_rfl) nr0 ?_
      refine rW (m := ⟨[], [], []⟩) (v := vN (idxN Y Z (A3.mk ((L.getD i default).x) (((Y : Nat) : Int) - 1 - ((L.getD i default).y)) ((L.getD i default).z)))) rfl (by kernel_rfl) (stQ (args := [.agg #[vN X, vN Y, vN Z], .agg #[vI ((L.getD i default).x), vI (((Y : Nat) : Int) - 1 - ((L.getD i default).y)), vI ((L.getD i default).z)]]) rfl (by kernel_rfl) (Any.lay0 [] (indexB X Y Z ((L.getD i default).x) (((Y : Nat) : Int) - 1 - ((L.getD i default).y)) ((L.getD i default).z) (by first | assumption | omega | rfl | decide | exact HeapL.list _ _ _ _ | exact HeapL.nil _ _ _ | exact HeapL.all _ _ _ | (apply HeapL.lt64 <;> assumption) | (repeat' (first | assumption | apply or_lt64 | apply and_lt64 | apply andn_lt64 | apply pow_lt64 | (apply HeapL.lt64 <;> assumption)))) (by first | assumption | omega | rfl | decide | exact HeapL.list _ _ _ _ | exact HeapL.nil _ _ _ | exact HeapL.all _ _ _ | (apply HeapL.lt64 <;> assumption) | (repeat' (first | assumption | apply or_lt64 | apply and_lt64 | apply andn_lt64 | apply pow_lt64 | (apply HeapL.lt64 <;> assumption))))) trivial rfl trivial rfl (by first | rfl | simp [mpV, mpA, mpS, mpP, renId, shift]) rfl) rfl (by kernel_rfl) (by kernel_rfl)) (by kernel_rfl) nr0 ?_
      refine rW (m := ⟨[], [], []⟩) (v := vU (2 ^ (idxN Y Z (A3.mk ((L.getD i default).x) (((Y : Nat) : Int) - 1 - ((L.getD i default).y)) ((L.getD i default).z))))) rfl (by kernel_rfl) (stId (eShl (k := .u64) (a := 1) (b := ((idxN Y Z (A3.mk ((L.getD i default).x) (((Y : Nat) : Int) - 1 - ((L.getD i default).y)) ((L.getD i default).z)) : Nat) : Int)) (k' := .i64) (c := ((2 ^ (idxN Y Z (A3.mk ((L.getD i default).x) (((Y : Nat) : Int) - 1 - ((L.getD i default).y)) ((L.getD i default).z))) : Nat) : Int)) (by kernel_rfl) (by kernel_rfl) (by omega) (shl1 _ (by omega))) rfl (by kernel_rfl) (by kernel_rfl) (by kernel_rfl)) (by kernel_rfl) nr0 ?_
      refine rW (m := ⟨[], [], []⟩) (v := vU (s ||| (2 ^ (idxN Y Z (A3.mk ((L.getD i default).x) (((Y : Nat) : Int) - 1 - ((L.getD i default).y)) ((L.getD i default).z)))))) rfl (by kernel_rfl) (stId (eOp (k := .u64) (a := ((s : Nat) : Int)) (b := ((2 ^ (idxN Y Z (A3.mk ((L.getD i default).x) (((Y : Nat) : Int) - 1 - ((L.getD i default).y)) ((L.getD i default).z))) : Nat) : Int)) (by kernel_rfl) (by kernel_rfl) ⟨by decide, by decide⟩ (orU s (2 ^ (idxN Y Z (A3.mk ((L.getD i default).x) (((Y : Nat) : Int) - 1 - ((L.getD i default).y)) ((L.getD i default).z)))) (by first | assumption | omega | (repeat' (first | assumption | omega | apply or_lt64 | apply and_lt64 | apply andn_lt64 | apply pow_lt64 | (apply HeapL.lt64 <;> assumption)))) (by first | assumption | omega | (repeat' (first | assumption | omega | apply or_lt64 | apply and_lt64 | apply andn_lt64 | apply pow_lt64 | (apply HeapL.lt64 <;> assumption)))))) rfl (by kernel_rfl) (by kernel_rfl) (by kernel_rfl)) (by kernel_rfl) nr0 ?_
      refine segEndWH [2, 4, 6, 7, 11, 12, 13] (T1 := (mkT 29 [(2, .func (.func 89) #[] #[vP 0 0, vP 1 0]), (4, vP 4 0), (6, vP 5 0), (7, vU (s ||| (2 ^ (idxN Y Z (A3.mk ((L.getD i default).x) (((Y : Nat) : Int) - 1 - ((L.getD i default).y)) ((L.getD i default).z)))))), (11, vS 2 L.length), (12, vN L.length), (13, vN i)])) (by kernel_rfl) ?_
      refine kBlk ?_
      refine kSeq ?_
      refine cReg ?_
      refine rOp (v := vN (i + 1)) (by kernel_rfl) (eAdd (k := .i64) (a := ((i : Nat) : Int)) (b := 1) (c := ((i + 1 : Nat) : Int)) (by kernel_rfl) (by kernel_rfl) (wr64 (by omega) (by omega) (by omega))) ?_
      refine segEndH [2, 4, 6, 7, 11, 12, 13] (T1 := (mkT 29 [(2, .func (.func 89) #[] #[vP 0 0, vP 1 0]), (4, vP 4 0), (6, vP 5 0), (7, vU (s ||| (2 ^ (idxN Y Z (A3.mk ((L.getD i default).x) (((Y : Nat) : Int) - 1 - ((L.getD i default).y)) ((L.getD i default).z)))))), (11, vS 2 L.length), (12, vN L.length), (13, vN (i + 1))])) (by kernel_rfl) ?_
      exact kLoop (L.length - (i + 1)) (mkT 29 [(2, .func (.func 89) #[] #[vP 0 0, vP 1 0]), (4, vP 4 0), (6, vP 5 0), (7, vU (s ||| (2 ^ (idxN Y Z (A3.mk ((L.getD i default).x) (((Y : Nat) : Int) - 1 - ((L.getD i default).y)) ((L.getD i default).z)))))), (11, vS 2 L.length), (12, vN L.length), (13, vN (i + 1))]) [some ⟨[vN X, vN Y, vN Z, vS 2 L.length], 29, true, false⟩, some ⟨[vI 1], 3, true, false⟩, some ⟨a3s L, 25, false, false⟩, rB [vN X, vN Y, vN Z, vS 2 L.length] 29, rB [vN X, vN Y, vN Z] 60, rB [vI 0, vI 0, vI 0, .slice none 0 0] 29] (by omega) (wkDrop [2, 4, 6, 7, 11, 12, 13] _ rfl rfl ((closedL ⟨clX rfl, ⟨clX rfl, ⟨clF (flatA3 _ _ _ _), ⟨clX rfl, ⟨clX rfl, ⟨clX rfl, trivial⟩⟩⟩⟩⟩⟩)) (by kernel_rfl) rfl) ⟨(i + 1), (s ||| (2 ^ (idxN Y Z (A3.mk ((L.getD i default).x) (((Y : Nat) : Int) - 1 - ((L.getD i default).y)) ((L.getD i default).z))))), (by omega), (by rw [hs1]; exact (setOf_map_take (by omega)).symm), rfl, rfl, rfl⟩

set_option maxRecDepth 100000 in
set_option maxHeartbeats 4000000 in
theorem mirror2 (X : Nat) (Y : Nat) (Z : Nat) (a : Int) (b : Int) (c : Int) (hs : Sides X Y Z) (hh : has3 (X : Int) (Y : Int) (Z : Int) a b c = true) : Sound Try.prog 90 [.agg #[vN X, vN Y, vN Z], .agg #[vI a, vI b, vI c], vI 2] [] (.agg #[vI a, vI b, vI (((Z : Nat) : Int) - 1 - c)]) [] := by
  refine sound_intro (C := cx) Try.func90 rfl (by kernel_rfl) fun hcl => ?_
  have hz := hs.size
  have hx0 := hs.x0
  have hx4 := hs.x4
  have hy0 := hs.y0
  have hy4 := hs.y4
  have hz0 := hs.z0
  have hz4 := hs.z4
  have hh3 := (has3_iff (c := A3.mk a b c)).1 hh
  simp only at hh3
  refine cSeq ?_
  refine cReg ?_
  refine segEnd [2, 3, 4, 6] (T1 := (mkT 18 [(2, vI 2), (3, vP 0 0), (4, vP 1 0), (6, vP 2 0)])) (H1 := [rB [vN X, vN Y, vN Z] 60, rB [vI a, vI b, vI c] 25, rB [vI 0, vI 0, vI 0] 25]) (by kernel_rfl) ?_
  refine kSeq ?_
  refine cSeq ?_
  refine cRegW (N := 3) [⟨[], [], []⟩, ⟨[], [], []⟩, ⟨[], [], []⟩, ⟨[], [], [0]⟩, ⟨[], [], []⟩, ⟨[], [], []⟩, ⟨[], [], []⟩, ⟨[], [], [1]⟩, ⟨[], [], []⟩, ⟨[], [], []⟩, ⟨[], [1], []⟩] 0 [] (by rfl) (by rfl) (by kernel_rfl) (by kernel_rfl) (by kernel_rfl) ⟨nmsX (by kernel_rfl), ⟨nmsX (by kernel_rfl), ⟨nmsX (by kernel_rfl), trivial⟩⟩⟩ ?_
  refine segWH 4 (T1 := (mkT 18 [(2, vI 2), (3, vP 0 0), (4, vP 1 0), (6, vP 2 0), (7, vI 2), (8, vI 2), (9, vP 0 2), (10, vN Z)])) (by kernel_rfl) ?_
  refine rW (m := ⟨[], [], []⟩) (v := vI (((Z : Nat) : Int) - 1)) rfl (by kernel_rfl) (stId (eSub (k := .i64) (a := ((Z : Nat) : Int)) (b := 1) (c := (((Z : Nat) : Int) - 1)) (by kernel_rfl) (by kernel_rfl) (wr64 (by omega) (by omega) (by omega))) rfl (by kernel_rfl) (by kernel_rfl) (by kernel_rfl)) (by kernel_rfl) nr0 ?_
  refine segWH 3 (T1 := (mkT 18 [(2, vI 2), (3, vP 0 0), (4, vP 1 0), (6, vP 2 0), (7, vI 2), (8, vI 2), (9, vP 0 2), (10, vN Z), (11, vI (((Z : Nat) : Int) - 1)), (12, vI 2), (13, vP 1 2), (14, vI c)])) (by kernel_rfl) ?_
  refine rW (m := ⟨[], [], []⟩) (v := vI (((Z : Nat) : Int) - 1 - c)) rfl (by kernel_rfl) (stId (eSub (k := .i64) (a := (((Z : Nat) : Int) - 1)) (b := c) (c := (((Z : Nat) : Int) - 1 - c)) (by kernel_rfl) (by kernel_rfl) (wr64 (by omega) (by omega) (by omega))) rfl (by kernel_rfl) (by kernel_rfl) (by kernel_rfl)) (by kernel_rfl) nr0 ?_
  refine segWH 1 (T1 := (mkT 18 [(2, vI 2), (3, vP 0 0), (4, vP 1 0), (6, vP 2 0), (7, vI 2), (8, vI 2), (9, vP 0 2), (10, vN Z), (11, vI (((Z : Nat) : Int) - 1)), (12, vI 2), (13, vP 1 2), (14, vI c), (15, vI (((Z : Nat) : Int) - 1 - c)), (16, vP 1 2)])) (by kernel_rfl) ?_
  refine rW (m := ⟨[], [1], []⟩) (v := .tuple #[]) rfl (by kernel_rfl) (stSet (b := 1) (r := ⟨[vI a, vI b, vI (((Z : Nat) : Int) - 1 - c)], 25, true, true⟩) (by kernel_rfl) rfl (by kernel_rfl) (by kernel_rfl) (by kernel_rfl) (by kernel_rfl) (nmX (by kernel_rfl)) (clX (by kernel_rfl))) (by kernel_rfl) (NRs.all ⟨nrOf (by rfl) (nmX (by kernel_rfl)), trivial⟩) ?_
  refine segEndW [4, 6] (T1 := (mkT 18 [(4, vP 1 0), (6, vP 2 0)])) (H1 := [rB [vN X, vN Y, vN Z] 60, rB [vI a, vI b, vI (((Z : Nat) : Int) - 1 - c)] 25, rB [vI 0, vI 0, vI 0] 25]) (by kernel_rfl) ?_
  refine kSeq ?_
  refine cSeq ?_
  refine cReg ?_
  refine segEnd [6] (T1 := (mkT 18 [(6, vP 2 0)])) (H1 := [rB [vN X, vN Y, vN Z] 60, rB [vI a, vI b, vI (((Z : Nat) : Int) - 1 - c)] 25, rB [vI a, vI b, vI (((Z : Nat) : Int) - 1 - c)] 25]) (by kernel_rfl) ?_
  refine kSeq ?_
  refine cRet ?_
  -- end
  exact endQ (Or.inr rfl) (l := [.agg #[vI a, vI b, vI (((Z : Nat) : Int) - 1 - c)]]) [rB [vN X, vN Y, vN Z] 60, rB [vI a, vI b, vI (((Z : Nat) : Int) - 1 - c)] 25, rB [vI a, vI b, vI (((Z : Nat) : Int) - 1 - c)] 25] (by kernel_rfl) (by first | rfl | kernel_rfl) rfl rfl hcl rfl

set_option maxRecDepth 100000 in
set_option maxHeartbeats 4000000 in
theorem mirrorC2 (X : Nat) (Y : Nat) (Z : Nat) (a : Int) (b : Int) (c : Int) (L : List A3) (hs : Sides X Y Z) (hh : has3 (X : Int) (Y : Int) (Z : Int) a b c = true) : Sound Try.prog 89 [.agg #[vI a, vI b, vI c], vP 0 0, vP 1 0] [some ⟨[vN X, vN Y, vN Z, vS 2 L.length], 29, true, false⟩, some ⟨[vI 2], 3, true, false⟩, some ⟨a3s L, 25, false, false⟩] (.agg #[vI a, vI b, vI (((Z : Nat) : Int) - 1 - c)]) [some ⟨[vN X, vN Y, vN Z, vS 2 L.length], 29, true, false⟩, some ⟨[vI 2], 3, true, false⟩, some ⟨a3s L, 25, false, false⟩] := by
  refine sound_intro (C := cx) Try.func89 rfl (by kernel_rfl) fun hcl => ?_
  refine cSeq ?_
  refine cReg ?_
  refine segEnd [1, 2, 3, 4] (T1 := (mkT 10 [(1, vP 0 0), (2, vP 1 0), (3, vP 3 0), (4, vP 4 0)])) (H1 := [some ⟨[vN X, vN Y, vN Z, vS 2 L.length], 29, true, false⟩, some ⟨[vI 2], 3, true, false⟩, some ⟨a3s L, 25, false, false⟩, rB [vI a, vI b, vI c] 25, rB [vI 0, vI 0, vI 0] 25]) (by kernel_rfl) ?_
  refine kSeq ?_
  refine cSeq ?_
  refine cRegW (N := 5) [⟨[], [], [0]⟩, ⟨[], [], [2]⟩, ⟨[], [], [3]⟩, ⟨[], [], [1]⟩, ⟨[], [], []⟩, ⟨[], [4], []⟩] 0 [] (by rfl) (by rfl) (by kernel_rfl) (by kernel_rfl) (by kernel_rfl) ⟨nmsX (by kernel_rfl), ⟨nmsX (by kernel_rfl), ⟨nmsF (flatA3 _ _ _ _), ⟨nmsX (by kernel_rfl), ⟨nmsX (by kernel_rfl), trivial⟩⟩⟩⟩⟩ ?_
  refine segWH 1 (T1 := (mkT 10 [(1, vP 0 0), (2, vP 1 0), (3, vP 3 0), (4, vP 4 0), (5, .agg #[vN X, vN Y, vN Z, vS 2 L.length])])) (by kernel_rfl) ?_
  refine rW (m := ⟨[], [], [2]⟩) (v := .agg #[vN X, vN Y, vN Z]) rfl (by kernel_rfl) (stQ (args := [.agg #[vN X, vN Y, vN Z, vS 2 L.length]]) rfl (by kernel_rfl) (Any.lay0 [2] (boxB ((X : Nat) : Int) ((Y : Nat) : Int) ((Z : Nat) : Int) L) ⟨rdF false (flatA3 _ _ _ _) rfl rfl, trivial⟩ rfl ⟨clF (flatA3 _ _ _ _), trivial⟩ rfl (by first | rfl | simp [mpV, mpA, mpS, mpP, renId, shift]) (by first | rfl | simp [mpV, mpA, mpS, mpP, renId, shift])) rfl (by kernel_rfl) (by kernel_rfl)) (by kernel_rfl) nr0 ?_
  refine segWH 2 (T1 := (mkT 10 [(1, vP 0 0), (2, vP 1 0), (3, vP 3 0), (4, vP 4 0), (5, .agg #[vN X, vN Y, vN Z, vS 2 L.length]), (6, .agg #[vN X, vN Y, vN Z]), (7, .agg #[vI a, vI b, vI c]), (8, vI 2)])) (by kernel_rfl) ?_
  refine rW (m := ⟨[], [], []⟩) (v := .agg #[vI a, vI b, vI (((Z : Nat) : Int) - 1 - c)]) rfl (by kernel_rfl) (stQ (args := [.agg #[vN X, vN Y, vN Z], .agg #[vI a, vI b, vI c], vI 2]) rfl (by kernel_rfl) (Any.lay0 [] (mirror2 X Y Z a b c (by first | assumption | omega | rfl | decide | exact HeapL.list _ _ _ _ | exact HeapL.nil _ _ _ | exact HeapL.all _ _ _ | (apply HeapL.lt64 <;> assumption) | (repeat' (first | assumption | apply or_lt64 | apply and_lt64 | apply andn_lt64 | apply pow_lt64 | (apply HeapL.lt64 <;> assumption)))) (by first | assumption | omega | rfl | decide | exact HeapL.list _ _ _ _ | exact HeapL.nil _ _ _ | exact HeapL.all _ _ _ | (apply HeapL.lt64 <;> assumption) | (repeat' (first | assumption | apply or_lt64 | apply and_lt64 | apply andn_lt64 | apply pow_lt64 | (apply HeapL.lt64 <;> assumption))))) trivial rfl trivial rfl (by first | rfl | simp [mpV, mpA, mpS, mpP, renId, shift]) (by first | rfl | simp [mpV, mpA, mpS, mpP, renId, shift])) rfl (by kernel_rfl) (by kernel_rfl)) (by kernel_rfl) nr0 ?_
  refine rW (m := ⟨[], [4], []⟩) (v := .tuple #[]) rfl (by kernel_rfl) (stSet (b := 4) (r := ⟨[vI a, vI b, vI (((Z : Nat) : Int) - 1 - c)], 25, true, true⟩) (by kernel_rfl) rfl (by kernel_rfl) (by kernel_rfl) (by kernel_rfl) (by kernel_rfl) (nmX (by kernel_rfl)) (clX (by kernel_rfl))) (by kernel_rfl) (NRs.all ⟨nrOf (by rfl) (nmX (by kernel_rfl)), trivial⟩) ?_
  refine segEndW [4] (T1 := (mkT 10 [(4, vP 4 0)])) (H1 := [some ⟨[vN X, vN Y, vN Z, vS 2 L.length], 29, true, false⟩, some ⟨[vI 2], 3, true, false⟩, some ⟨a3s L, 25, false, false⟩, rB [vI a, vI b, vI c] 25, rB [vI a, vI b, vI (((Z : Nat) : Int) - 1 - c)] 25]) (by kernel_rfl) ?_
  refine kSeq ?_
  refine cRet ?_
  -- end
  exact endQ (Or.inr rfl) (l := [.agg #[vI a, vI b, vI (((Z : Nat) : Int) - 1 - c)]]) [rB [vI a, vI b, vI c] 25, rB [vI a, vI b, vI (((Z : Nat) : Int) - 1 - c)] 25] (by kernel_rfl) (by first | rfl | kernel_rfl) rfl rfl hcl rfl

set_option maxRecDepth 100000 in
set_option maxHeartbeats 4000000 in
theorem movedM2 (X : Nat) (Y : Nat) (Z : Nat) (L : List A3) (hs : Sides X Y Z) (hL : HeapL X Y Z L) : Sound Try.prog 84 [.agg #[vN X, vN Y, vN Z, vS 2 L.length], .agg #[vN X, vN Y, vN Z], .func (.func 89) #[] #[vP 0 0, vP 1 0]] [some ⟨[vN X, vN Y, vN Z, vS 2 L.length], 29, true, false⟩, some ⟨[vI 2], 3, true, false⟩, some ⟨a3s L, 25, false, false⟩] (.agg #[vN X, vN Y, vN Z, vS 3 ((listOf X Y Z (setOf Y Z (L.map (mir X Y Z 2)))).length)]) [some ⟨[vN X, vN Y, vN Z, vS 2 L.length], 29, true, false⟩, some ⟨[vI 2], 3, true, false⟩, some ⟨a3s L, 25, false, false⟩, some ⟨a3s (listOf X Y Z (setOf Y Z (L.map (mir X Y Z 2)))), 25, false, true⟩] := by
  refine sound_intro (C := cx) Try.func84 rfl (by kernel_rfl) fun hcl => ?_
  have hz := hs.size
  have hx0 := hs.x0
  have hx4 := hs.x4
  have hy0 := hs.y0
  have hy4 := hs.y4
  have hz0 := hs.z0
  have hz4 := hs.z4
  have hlen := hL.len
  have hlt := hL.lt64 hs
  refine cSeq ?_
  refine cReg ?_
  refine segEnd [2, 3, 4, 6] (T1 := (mkT 29 [(2, .func (.func 89) #[] #[vP 0 0, vP 1 0]), (3, vP 3 0), (4, vP 4 0), (6, vP 5 0)])) (H1 := [some ⟨[vN X, vN Y, vN Z, vS 2 L.length], 29, true, false⟩, some ⟨[vI 2], 3, true, false⟩, some ⟨a3s L, 25, false, false⟩, rB [vN X, vN Y, vN Z, vS 2 L.length] 29, rB [vN X, vN Y, vN Z] 60, rB [vI 0, vI 0, vI 0, .slice none 0 0] 29]) (by kernel_rfl) ?_
  refine kSeq ?_
  refine cSeq ?_
  refine cReg ?_
  refine segEndH [2, 3, 4, 6, 7] (T1 := (mkT 29 [(2, .func (.func 89) #[] #[vP 0 0, vP 1 0]), (3, vP 3 0), (4, vP 4 0), (6, vP 5 0), (7, vU 0)])) (by kernel_rfl) ?_
  refine kSeq ?_
  refine cSeq ?_
  refine cSeq ?_
  refine cReg ?_
  refine segEndH [2, 4, 6, 7, 11, 12, 13] (T1 := (mkT 29 [(2, .func (.func 89) #[] #[vP 0 0, vP 1 0]), (4, vP 4 0), (6, vP 5 0), (7, vU 0), (11, vS 2 L.length), (12, vN L.length), (13, vI 0)])) (by kernel_rfl) ?_
  refine kSeq ?_
  refine cBlk ?_
  -- loop
  refine cLoop (fun mm T H => ∃ i : Nat, ∃ s : Nat, (i ≤ L.length) ∧ (s = setOf Y Z ((L.take i).map (mir X Y Z 2))) ∧ mm = L.length - i ∧ T = (mkT 29 [(2, .func (.func 89) #[] #[vP 0 0, vP 1 0]), (4, vP 4 0), (6, vP 5 0), (7, vU s), (11, vS 2 L.length), (12, vN L.length), (13, vN i)]) ∧ H = [some ⟨[vN X, vN Y, vN Z, vS 2 L.length], 29, true, false⟩, some ⟨[vI 2], 3, true, false⟩, some ⟨a3s L, 25, false, false⟩, rB [vN X, vN Y, vN Z, vS 2 L.length] 29, rB [vN X, vN Y, vN Z] 60, rB [vI 0, vI 0, vI 0, .slice none 0 0] 29]) (L.length - 0) (mkT 29 [(2, .func (.func 89) #[] #[vP 0 0, vP 1 0]), (4, vP 4 0), (6, vP 5 0), (7, vU 0), (11, vS 2 L.length), (12, vN L.length), (13, vI 0)]) [some ⟨[vN X, vN Y, vN Z, vS 2 L.length], 29, true, false⟩, some ⟨[vI 2], 3, true, false⟩, some ⟨a3s L, 25, false, false⟩, rB [vN X, vN Y, vN Z, vS 2 L.length] 29, rB [vN X, vN Y, vN Z] 60, rB [vI 0, vI 0, vI 0, .slice none 0 0] 29] (wkSame [2, 4, 6, 7, 11, 12, 13] (by kernel_rfl)) ?_ ?_
  · exact ⟨0, 0, (Nat.zero_le _), (rfl), rfl, rfl, rfl⟩
  · rintro _ _ _ ⟨i, s, hi, hs1, rfl, rfl, rfl⟩
    have hslt : s < 18446744073709551616 := hs1 ▸ setOf_map_lt hs (fun d hd => mir_has (hL.mem_has hs hd)) i
    refine cSeq ?_
    refine cReg ?_
    refine segEndH [2, 4, 6, 7, 11, 12, 13, 14] (T1 := (mkT 29 [(2, .func (.func 89) #[] #[vP 0 0, vP 1 0]), (4, vP 4 0), (6, vP 5 0), (7, vU s), (11, vS 2 L.length), (12, vN L.length), (13, vN i), (14, .bool (decide (((i : Nat) : Int) < ((L.length : Nat) : Int))))])) (by kernel_rfl) ?_
    refine kSeq ?_
    refine cSeq ?_
    cases h1 : (decide (((i : Nat) : Int) < ((L.length : Nat) : Int)) : Bool)
    ·
      (try simp only [Bool.not_eq_true', Bool.not_eq_false', decide_eq_true_eq, decide_eq_false_iff_not, beq_iff_eq, bne_iff_ne, beq_eq_false_iff_ne, bne_eq_false_iff_eq, ne_eq, Decidable.not_not, Bool.and_eq_true, Bool.and_eq_false_imp, Bool.or_eq_true, Bool.or_eq_false_iff, Bool.not_eq_true, Int.not_lt, Int.not_le, ge_iff_le, gt_iff_lt] at h1)
      refine cFalse (by kernel_rfl) ?_
      refine cExit ?_
      refine kSeqE ?_
      refine kLoopE ?_
      refine kBlkHit ?_
      refine kSeq ?_
      refine cSeq ?_
      refine cReg ?_
      refine segH 2 (T1 := (mkT 29 [(2, .func (.func 89) #[] #[vP 0 0, vP 1 0]), (4, vP 4 0), (6, vP 5 0), (7, vU s), (11, vS 2 L.length), (12, vN L.length), (13, vN i), (14, .bool false), (26, .agg #[vN X, vN Y, vN Z]), (27, vU s)])) (by kernel_rfl) ?_
      refine rCall (v := .agg #[vN X, vN Y, vN Z, vS 6 ((listOf X Y Z s).length)]) (args := [.agg #[vN X, vN Y, vN Z], vU s]) (by kernel_rfl) rfl (by kernel_rfl) (Sound.lay (E := [some ⟨a3s (listOf X Y Z s), 25, false, true⟩]) [] (heapB X Y Z s (by first | assumption | omega | rfl | decide | exact HeapL.list _ _ _ _ | exact HeapL.nil _ _ _ | exact HeapL.all _ _ _ | (apply HeapL.lt64 <;> assumption) | (repeat' (first | assumption | apply or_lt64 | apply and_lt64 | apply andn_lt64 | apply pow_lt64 | (apply HeapL.lt64 <;> assumption)))) (by first | assumption | omega | rfl | decide | exact HeapL.list _ _ _ _ | exact HeapL.nil _ _ _ | exact HeapL.all _ _ _ | (apply HeapL.lt64 <;> assumption) | (repeat' (first | assumption | apply or_lt64 | apply and_lt64 | apply andn_lt64 | apply pow_lt64 | (apply HeapL.lt64 <;> assumption))))) trivial rfl trivial rfl (by first | rfl | simp [mpV, mpA, mpS, mpP, renId, shift]) (by first | rfl | simp [mpV, mpA, mpS, mpP, renId, shift]) ⟨enF (flatA3 _ _ _ _) (Or.inl rfl), trivial⟩) ?_
      refine segEnd [6] (T1 := (mkT 29 [(6, vP 5 0)])) (H1 := [some ⟨[vN X, vN Y, vN Z, vS 2 L.length], 29, true, false⟩, some ⟨[vI 2], 3, true, false⟩, some ⟨a3s L, 25, false, false⟩, rB [vN X, vN Y, vN Z, vS 2 L.length] 29, rB [vN X, vN Y, vN Z] 60, rB [vN X, vN Y, vN Z, vS 6 ((listOf X Y Z s).length)] 29, some ⟨a3s (listOf X Y Z s), 25, false, true⟩]) (by kernel_rfl) ?_
      refine kSeq ?_
      refine cRet ?_
      -- end
      have he0 : ((listOf X Y Z s) : List A3) = (listOf X Y Z (setOf Y Z (L.map (mir X Y Z 2)))) := by (rw [hs1, show i = L.length by omega, List.take_length])
      refine endCast (v1 := .agg #[vN X, vN Y, vN Z, vS 3 ((listOf X Y Z s).length)]) (H1 := [some ⟨[vN X, vN Y, vN Z, vS 2 L.length], 29, true, false⟩, some ⟨[vI 2], 3, true, false⟩, some ⟨a3s L, 25, false, false⟩, some ⟨a3s (listOf X Y Z s), 25, false, true⟩]) (by first | rfl | ((try rw [← he0]); done) | (simp only [← he0]; done)) (by first | rfl | ((try rw [← he0]); done) | (simp only [← he0]; done)) ?_
      exact endF (Or.inr rfl) (l := [.agg #[vN X, vN Y, vN Z, vS 6 ((listOf X Y Z s).length)]]) [0, 1, 2, 6] (by kernel_rfl) (by first | rfl | simp [packR, mpV, mpA, mpS, mpP, renId]) ⟨rrX rfl rfl, ⟨rrX rfl rfl, ⟨rrF (flatA3 _ _ _ _) rfl, ⟨rrF (flatA3 _ _ _ _) rfl, trivial⟩⟩⟩⟩ rfl rfl
    ·
      (try simp only [Bool.not_eq_true', Bool.not_eq_false', decide_eq_true_eq, decide_eq_false_iff_not, beq_iff_eq, bne_iff_ne, beq_eq_false_iff_ne, bne_eq_false_iff_eq, ne_eq, Decidable.not_not, Bool.and_eq_true, Bool.and_eq_false_imp, Bool.or_eq_true, Bool.or_eq_false_iff, Bool.not_eq_true, Int.not_lt, Int.not_le, ge_iff_le, gt_iff_lt] at h1)
      have hhas := hL.has hs (i := i) (by omega)
      have hmir := mir_has (d := 2) hhas
      have hidx := Nat.lt_of_lt_of_le (idx_lt hmir) hs.size
      simp only [mir] at hmir hidx
      refine cTrue (by kernel_rfl) ?_
      refine cSkip ?_
      refine kSeq ?_
      refine cSeq ?_
      refine cBlk ?_
      refine cSeq ?_
      refine cReg ?_
      refine rOp (v := vP 2 (i * 3)) (by kernel_rfl) (eIdxS (ad := ⟨2, 0, none⟩) (n := L.length) (m := 0) (k := .i64) (c := ((i : Nat) : Int)) (j := i) (o := i * 3) (by kernel_rfl) (by kernel_rfl) ti22 ti25 (rfl) (by omega) (by exact Nat.zero_add _)) ?_
      refine rOp (v := .agg #[vI ((L.getD i default).x), vI ((L.getD i default).y), vI ((L.getD i default).z)]) (by kernel_rfl) (eLdA3 (ad := ⟨2, i * 3, none⟩) (r := ⟨a3s L, 25, false, false⟩) (L := L) (j := i) (by kernel_rfl) (by kernel_rfl) rfl (by first | rfl | omega) (by omega) ti25) ?_
      refine segEnd [2, 4, 6, 7, 9, 11, 12, 13] (T1 := (mkT 29 [(2, .func (.func 89) #[] #[vP 0 0, vP 1 0]), (4, vP 4 0), (6, vP 5 0), (7, vU s), (9, vP 6 0), (11, vS 2 L.length), (12, vN L.length), (13, vN i)])) (H1 := [some ⟨[vN X, vN Y, vN Z, vS 2 L.length], 29, true, false⟩, some ⟨[vI 2], 3, true, false⟩, some ⟨a3s L, 25, false, false⟩, rB [vN X, vN Y, vN Z, vS 2 L.length] 29, rB [vN X, vN Y, vN Z] 60, rB [vI 0, vI 0, vI 0, .slice none 0 0] 29, rB [vI ((L.getD i default).x), vI ((L.getD i default).y), vI ((L.getD i default).z)] 25]) (by kernel_rfl) ?_
      refine kSeq ?_
      refine cRegW (N := 7) [⟨[], [], []⟩, ⟨[], [], [4]⟩, ⟨[], [], []⟩, ⟨[], [], [6]⟩, ⟨[], [], [0, 1, 2]⟩, ⟨[], [], []⟩, ⟨[], [], []⟩, ⟨[], [], []⟩, ⟨[], [], []⟩] 0 [] (by rfl) (by rfl) (by kernel_rfl) (by kernel_rfl) (by kernel_rfl) ⟨nmsX (by kernel_rfl), ⟨nmsX (by kernel_rfl), ⟨nmsF (flatA3 _ _ _ _), ⟨nmsX (by kernel_rfl), ⟨nmsX (by kernel_rfl), ⟨nmsX (by kernel_rfl), ⟨nmsX (by kernel_rfl), trivial⟩⟩⟩⟩⟩⟩⟩ ?_
      refine segWH 4 (T1 := (mkT 29 [(2, .func (.func 89) #[] #[vP 0 0, vP 1 0]), (4, vP 4 0), (6, vP 5 0), (7, vU s), (9, vP 6 0), (11, vS 2 L.length), (12, vN L.length), (13, vN i), (17, vU s), (18, .agg #[vN X, vN Y, vN Z]), (19, .func (.func 89) #[] #[vP 0 0, vP 1 0]), (20, .agg #[vI ((L.getD i default).x), vI ((L.getD i default).y), vI ((L.getD i default).z)])])) (by kernel_rfl) ?_
      refine rW (m := ⟨[], [], [0, 1, 2]⟩) (v := .agg #[vI ((L.getD i default).x), vI ((L.getD i default).y), vI (((Z : Nat) : Int) - 1 - ((L.getD i default).z))]) rfl (by kernel_rfl) (stQ (args := [.agg #[vI ((L.getD i default).x), vI ((L.getD i default).y), vI ((L.getD i default).z)], vP 0 0, vP 1 0]) rfl (by kernel_rfl) (Any.lay0 [0, 1, 2] (mirrorC2 X Y Z ((L.getD i default).x) ((L.getD i default).y) ((L.getD i default).z) L (by first | assumption | omega | rfl | decide | exact HeapL.list _ _ _ _ | exact HeapL.nil _ _ _ | exact HeapL.all _ _ _ | (apply HeapL.lt64 <;> assumption) | (repeat' (first | assumption | apply or_lt64 | apply and_lt64 | apply andn_lt64 | apply pow_lt64 | (apply HeapL.lt64 <;> assumption)))) (by first | assumption | omega | rfl | decide | exact HeapL.list _ _ _ _ | exact HeapL.nil _ _ _ | exact HeapL.all _ _ _ | (apply HeapL.lt64 <;> assumption) | (repeat' (first | assumption | apply or_lt64 | apply and_lt64 | apply andn_lt64 | apply pow_lt64 | (apply HeapL.lt64 <;> assumption))))) ⟨rdX false rfl rfl, ⟨rdX false rfl rfl, ⟨rdF false (flatA3 _ _ _ _) rfl rfl, trivial⟩⟩⟩ rfl ⟨clX rfl, ⟨clX rfl, ⟨clF (flatA3 _ _ _ _), trivial⟩⟩⟩ rfl (by first | rfl | simp [mpV, mpA, mpS, mpP, renId, shift]) (by first | rfl | simp [mpV, mpA, mpS, mpP, renId, shift])) rfl (by kernel_rfl) (by kernel_rfl)) (by kernel_rfl) nr0 ?_
      refine rW (m := ⟨[], [], []⟩) (v := vN (idxN Y Z (A3.mk ((L.getD i default).x) ((L.getD i default).y) (((Z : Nat) : Int) - 1 - ((L.getD i default).z))))) rfl (by kernel_rfl) (stQ (args := [.agg #[vN X, vN Y, vN Z], .agg #[vI ((L.getD i default).x), vI ((L.getD i default).y), vI (((Z : Nat) : Int) - 1 - ((L.getD i default).z))]]) rfl (by kernel_rfl) (Any.lay0 [] (indexB X Y Z ((L.getD i default).x) ((L.getD i default).y) (((Z : Nat) : Int) - 1 - ((L.getD i default).z)) (by first | assumption | omega | rfl | decide | exact HeapL.list _ _ _ _ | exact HeapL.nil _ _ _ | exact HeapL.all _ _ _ | (apply HeapL.lt64 <;> assumption) | (repeat' (first | assumption | apply or_lt64 | apply and_lt64 | apply andn_lt64 | apply pow_lt64 | (apply HeapL.lt64 <;> assumption)))) (by first | assumption | omega | rfl | decide | exact HeapL.list _ _ _ _ | exact HeapL.nil _ _ _ | exact HeapL.all _ _ _ | (apply HeapL.lt64 <;> assumption) | (repeat' (first | assumption | apply or_lt64 | apply and_lt64 | apply andn_lt64 | apply pow_lt64 | (apply HeapL.lt64 <;> assumption))))) trivial rfl trivial rfl (by first | rfl | simp [mpV, mpA, mpS, mpP, renId, shift]) rfl) rfl (by kernel_rfl) (by kernel_rfl)) (by kernel_rfl) nr0 ?_
      refine rW (m := ⟨[], [], []⟩) (v := vU (2 ^ (idxN Y Z (A3.mk ((L.getD i default).x) ((L.getD i default).y) (((Z : Nat) : Int) - 1 - ((L.getD i default).z)))))) rfl (by kernel_rfl) (stId (eShl (k := .u64) (a := 1) (b := ((idxN Y Z (A3.mk ((L.getD i default).x) ((L.getD i default).y) (((Z : Nat) : Int) - 1 - ((L.getD i default).z))) : Nat) : Int)) (k' := .i64) (c := ((2 ^ (idxN Y Z (A3.mk ((L.getD i default).x) ((L.getD i default).y) (((Z : Nat) : Int) - 1 - ((L.getD i default).z)))) : Nat) : Int)) (by kernel_rfl) (by kernel_rfl) (by omega) (shl1 _ (by omega))) rfl (by kernel_rfl) (by kernel_rfl) (by kernel_rfl)) (by kernel_rfl) nr0 ?_
      refine rW (m := ⟨[], [], []⟩) (v := vU (s ||| (2 ^ (idxN Y Z (A3.mk ((L.getD i default).x) ((L.getD i default).y) (((Z : Nat) : Int) - 1 - ((L.getD i default).z))))))) rfl (by kernel_rfl) (stId (eOp (k := .u64) (a := ((s : Nat) : Int)) (b := ((2 ^ (idxN Y Z (A3.mk ((L.getD i default).x) ((L.getD i default).y) (((Z : Nat) : Int) - 1 - ((L.getD i default).z)))) : Nat) : Int)) (by kernel_rfl) (by kernel_rfl) ⟨by decide, by decide⟩ (orU s (2 ^ (idxN Y Z (A3.mk ((L.getD i default).x) ((L.getD i default).y) (((Z : Nat) : Int) - 1 - ((L.getD i default).z))))) (by first | assumption | omega | (repeat' (first | assumption | omega | apply or_lt64 | apply and_lt64 | apply andn_lt64 | apply pow_lt64 | (apply HeapL.lt64 <;> assumption)))) (by first | assumption | omega | (repeat' (first | assumption | omega | apply or_lt64 | apply and_lt64 | apply andn_lt64 | apply pow_lt64 | (apply HeapL.lt64 <;> assumption)))))) rfl (by kernel_rfl) (by kernel_rfl) (by kernel_rfl)) (by kernel_rfl) nr0 ?_
      refine segEndWH [2, 4, 6, 7, 11, 12, 13] (T1 := (mkT 29 [(2, .func (.func 89) #[] #[vP 0 0, vP 1 0]), (4, vP 4 0), (6, vP 5 0), (7, vU (s ||| (2 ^ (idxN Y Z (A3.mk ((L.getD i default).x) ((L.getD i default).y) (((Z : Nat) : Int) - 1 - ((L.getD i default).z))))))), (11, vS 2 L.length), (12, vN L.length), (13, vN i)])) (by kernel_rfl) ?_
      refine kBlk ?_
      refine kSeq ?_
      refine cReg ?_
      refine rOp (v := vN (i + 1)) (by kernel_rfl) (eAdd (k := .i64) (a := ((i : Nat) : Int)) (b := 1) (c := ((i + 1 : Nat) : Int)) (by kernel_rfl) (by kernel_rfl) (wr64 (by omega) (by omega) (by omega))) ?_
      refine segEndH [2, 4, 6, 7, 11, 12, 13] (T1 := (mkT 29 [(2, .func (.func 89) #[] #[vP 0 0, vP 1 0]), (4, vP 4 0), (6, vP 5 0), (7, vU (s ||| (2 ^ (idxN Y Z (A3.mk ((L.getD i default).x) ((L.getD i default).y) (((Z : Nat) : Int) - 1 - ((L.getD i default).z))))))), (11, vS 2 L.length), (12, vN L.length), (13, vN (i + 1))])) (by kernel_rfl) ?_
      exact kLoop (L.length - (i + 1)) (mkT 29 [(2, .func (.func 89) #[] #[vP 0 0, vP 1 0]), (4, vP 4 0), (6, vP 5 0), (7, vU (s ||| (2 ^ (idxN Y Z (A3.mk ((L.getD i default).x) ((L.getD i default).y) (((Z : Nat) : Int) - 1 - ((L.getD i default).z))))))), (11, vS 2 L.length), (12, vN L.length), (13, vN (i + 1))]) [some ⟨[vN X, vN Y, vN Z, vS 2 L.length], 29, true, false⟩, some ⟨[vI 2], 3, true, false⟩, some ⟨a3s L, 25, false, false⟩, rB [vN X, vN Y, vN Z, vS 2 L.length] 29, rB [vN X, vN Y, vN Z] 60, rB [vI 0, vI 0, vI 0, .slice none 0 0] 29] (by omega) (wkDrop [2, 4, 6, 7, 11, 12, 13] _ rfl rfl ((closedL ⟨clX rfl, ⟨clX rfl, ⟨clF (flatA3 _ _ _ _), ⟨clX rfl, ⟨clX rfl, ⟨clX rfl, trivial⟩⟩⟩⟩⟩⟩)) (by kernel_rfl) rfl) ⟨(i + 1), (s ||| (2 ^ (idxN Y Z (A3.mk ((L.getD i default).x) ((L.getD i default).y) (((Z : Nat) : Int) - 1 - ((L.getD i default).z)))))), (by omega), (by rw [hs1]; exact (setOf_map_take (by omega)).symm), rfl, rfl, rfl⟩
end Go.Proofs.Ytenkiofddpjidaa
