/- Part of the proof, merged out of smaller texts. No condition. -/
import Derived.Test.YtjdmboagjeldcaaAmC5
import Derived.Test.YtjdmboagjeldcaaAmC2
import Derived.Test.YtjdmboagjeldcaaAmC6
namespace Go.Proofs.Ytjdmboagjeldcaa
open Go.RowKit S F Go.Proofs.YtjdmboagjeldcaaW.PrintWords Go.Proofs.YtjdmboagjeldcaaW.PrintLast Go.Proofs.YtjdmboagjeldcaaW.PrintMore
theorem all_count : ((List.range 4).all fun x => (List.range 4).all fun y => (List.range 4).all fun z => if countC (x + 1) (y + 1) (z + 1) ≤ 1000 then decide ((allL (y + 1) (z + 1) ((x + 1) * (y + 1)) []).length = countC (x + 1) (y + 1) (z + 1)) && decide (spec_l5Count.f 3000 ((x + 1 : Nat) : Int) ((y + 1 : Nat) : Int) ((z + 1 : Nat) : Int) = some ((countC (x + 1) (y + 1) (z + 1) : Nat) : Int)) else true) = true := by decide +kernel
theorem count_facts {x y z : Nat} (hx0 : 0 < x) (hx : x ≤ 4) (hy0 : 0 < y) (hy : y ≤ 4) (hz0 : 0 < z) (hz : z ≤ 4) (hc : countC x y z ≤ 1000) : (allL y z (x * y) []).length = countC x y z ∧ spec_l5Count.f 3000 (x : Int) (y : Int) (z : Int) = some ((countC x y z : Nat) : Int) := by
  have h := List.all_eq_true.1 (List.all_eq_true.1 (List.all_eq_true.1 all_count (x - 1) (List.mem_range.2 (by omega))) (y - 1) (List.mem_range.2 (by omega))) (z - 1) (List.mem_range.2 (by omega))
  rw [show x - 1 + 1 = x by omega, show y - 1 + 1 = y by omega, show z - 1 + 1 = z by omega, if_pos hc] at h
  simp only [Bool.and_eq_true, decide_eq_true_eq] at h
  exact h
theorem row_of_C {W : World} {A : Option Addr} {l : List Int} {c : Nat} (h : (Kd.int .i64).C W A l.length l) (hl : 0 < l.length) (hc : l.length ≤ c) : ∃ b o, A = some ⟨b, o, none⟩ ∧ ∀ ρ : Go.Am.Ren, Go.Am.RepRow Try.prog ρ W ⟨b, o, c⟩ ⟨Go.Am.nums l, 3, false, false⟩ := by
  obtain ⟨ad, hA, h0⟩ := Kd.at_int h 0 (by omega) (by omega)
  have hcell : ∀ (j : Nat) (v : Int), l[j]? = some v → W.cell? (ad.add j) = some (.int .i64 v) := by
    intro j v hj
    have hjl := (List.getElem?_eq_some_iff.1 hj).1
    obtain ⟨ad', e', h'⟩ := Kd.at_int h (j : Int) (by omega) (by omega)
    rw [hA] at e'
    injection e' with e'
    subst e'
    rw [rd_eq l j hjl, Int.toNat_natCast, (List.getElem?_eq_some_iff.1 hj).2] at h'
    exact h'
  have hspot : ad.spot = none := by
    simp only [Int.toNat_zero, Addr.add, if_true] at h0
    unfold World.cell? at h0
    split at h0
    · rename_i hs
      cases hsp : ad.spot with
      | none => rfl
      | some s => rw [hsp] at h0; simp at h0
    · cases h0
  obtain ⟨b, o, s⟩ := ad
  simp only at hspot
  subst hspot
  have hblk : ∃ cur e fz, W.heap[b]? = some (.cells cur e fz) := by
    simp only [Int.toNat_zero, Addr.add, if_true] at h0
    unfold World.cell? at h0
    split at h0
    · rename_i cur e fz hs; exact ⟨_, _, _, hs⟩
    · cases h0
  obtain ⟨cur, e, fz, hb⟩ := hblk
  refine ⟨b, o, hA, fun ρ => ⟨⟨cur, e, fz, hb, fun j v hj => ?_, fun h => absurd (show false = true from h) (by decide), fun _ => ?_⟩, fun v hv => ?_⟩⟩
  · unfold Go.Am.nums at hj
    rw [List.getElem?_map, Option.map_eq_some_iff] at hj
    obtain ⟨u, hu, rfl⟩ := hj
    have h1 := hcell j u hu
    have e1 : (⟨b, o, none⟩ : Addr).add j = ⟨b, o + j, none⟩ := by
      unfold Addr.add
      split
      · rename_i h; rw [h]; rfl
      · rfl
    rw [e1] at h1
    unfold World.cell? at h1
    simp only [hb] at h1
    simpa [Go.Am.mapS, Go.Am.mpS, Go.Am.mpP] using h1
  · have e3 : Try.prog.cellsOf 3 = 1 := by kernel_rfl
    simp only [Go.Am.nums, List.length_map, e3]
    omega
  · unfold Go.Am.nums at hv
    obtain ⟨u, _, rfl⟩ := List.mem_map.1 hv
    rfl
theorem rep_nums {W : World} {l : Go.Am.Loc} {N : List Int} (h : ∀ ρ : Go.Am.Ren, Go.Am.RepRow Try.prog ρ W l ⟨Go.Am.nums N, 3, false, false⟩) : Go.Am.Rep Try.prog (fun _ => l) [some ⟨Go.Am.nums N, 3, false, false⟩] W :=
  Go.Am.rep_ro (Go.Am.FlatH.nil.cons (Go.Am.flatNums _ _ _ _)) fun i r hi => by
    cases i with
    | zero => simp at hi; subst hi; exact ⟨rfl, h _⟩
    | succ i => simp at hi
abbrev boxV (X Y Z : Nat) : Value := .agg #[.int .i64 (X : Int), .int .i64 (Y : Int), .int .i64 (Z : Int)]
abbrev heapV (X Y Z : Nat) (g n cap : Nat) : Value := .agg #[.int .i64 (X : Int), .int .i64 (Y : Int), .int .i64 (Z : Int), .slice (some ⟨g, 0, none⟩) n cap]
theorem callStack {X Y Z : Nat} (hs : Go.Am.Sides X Y Z) {N : List Int} (hn : N.length = X * Y) {W : World} {A : Option Addr} {c : Nat} (hC : (Kd.int .i64).C W A N.length N) (hc : N.length ≤ c) :
    Calls Try.prog 26 #[boxV X Y Z, .slice A N.length c] W fun e w' => e = .returned (.int .u64 ((Go.Am.stackS X Y Z N : Nat) : Int)) ∧ Below W.heap.size W w' := by
  have hp : 0 < N.length := by rw [hn]; exact Nat.mul_pos hs.x0 hs.y0
  obtain ⟨b, o, rfl, hr⟩ := row_of_C hC hp hc
  have h := (stackB X Y Z N hs hn).top (fun i r hi => by
    cases i with
    | zero => simp at hi; subst hi; rfl
    | succ i => simp at hi) (rep_nums hr) (by simp [Go.Am.idsV, Go.Am.idsA, Go.Am.idsS, Go.Am.idsP]) rfl
  simpa [Go.Am.mapV, Go.Am.mpV, Go.Am.mpA, Go.Am.mpS, Go.Am.mpP, Go.Am.toReal] using h
theorem callHeap {X Y Z : Nat} (hs : Go.Am.Sides X Y Z) (s : Nat) (hlt : s < 18446744073709551616) (W : World) :
    Calls Try.prog 25 #[boxV X Y Z, .int .u64 (s : Int)] W fun e w' => ∃ g cap, e = .returned (heapV X Y Z g (Go.Am.listOf X Y Z s).length cap) ∧ Below W.heap.size W w' ∧ Go.Am.Made Try.prog W w' g cap ⟨Go.Am.a3s (Go.Am.listOf X Y Z s), 38, false, true⟩ := by
  have h := (heapB X Y Z s hs hlt).topF (H := []) (fun i r hi => by simp at hi) rfl (Go.Am.flatA3 _ _ _ _) (ρ := fun _ => ⟨0, 0, 0⟩) (W := W) Go.Am.rep_nil (by simp [Go.Am.idsV, Go.Am.idsA, Go.Am.idsS, Go.Am.idsP])
  simpa [Go.Am.mapV, Go.Am.mpV, Go.Am.mpA, Go.Am.mpS, Go.Am.mpP, Go.Am.toReal] using h
theorem callSpecStack {X Y Z : Nat} (hs : Go.Am.Sides X Y Z) {N : List Int} (hn : N.length = X * Y) {W : World} {A : Option Addr} {c : Nat} (hC : (Kd.int .i64).C W A N.length N) (hc : N.length ≤ c) :
    Calls Try.prog 23 #[.int .i64 (X : Int), .int .i64 (Y : Int), .int .i64 (Z : Int), .slice A N.length c] W fun e w' => ∃ g cap, e = .returned (heapV X Y Z g (Go.Am.listOf X Y Z (Go.Am.stackS X Y Z N)).length cap) ∧ Below W.heap.size W w' ∧ Go.Am.Made Try.prog W w' g cap ⟨Go.Am.a3s (Go.Am.listOf X Y Z (Go.Am.stackS X Y Z N)), 38, false, true⟩ := by
  have hp : 0 < N.length := by rw [hn]; exact Nat.mul_pos hs.x0 hs.y0
  obtain ⟨b, o, rfl, hr⟩ := row_of_C hC hp hc
  have h := (l2StackB X Y Z N hs hn).topF (H := [some ⟨Go.Am.nums N, 3, false, false⟩]) (fun i r hi => by
    cases i with
    | zero => simp at hi; subst hi; rfl
    | succ i => simp at hi) rfl (Go.Am.flatA3 _ _ _ _) (rep_nums hr) (by simp [Go.Am.idsV, Go.Am.idsA, Go.Am.idsS, Go.Am.idsP])
  simpa [Go.Am.mapV, Go.Am.mpV, Go.Am.mpA, Go.Am.mpS, Go.Am.mpP, Go.Am.toReal] using h
end Go.Proofs.Ytjdmboagjeldcaa
namespace Go.Proofs.Ytjdmboagjeldcaa
open Go.RowKit S F Go.Proofs.YtjdmboagjeldcaaW.PrintWords Go.Proofs.YtjdmboagjeldcaaW.PrintLast Go.Proofs.YtjdmboagjeldcaaW.PrintMore
def rankB (k : Int) (n : Nat) : Bool := decide (0 ≤ k) && decide (k < (n : Int))
theorem within_rank (k : Int) (n : Nat) : impl_within.f k 0 ((n : Int) - 1) = some (rankB k n) := by
  unfold impl_within.f rankB
  by_cases h : k ≥ 0
  · rw [if_pos h, decide_eq_true (show (0:Int) ≤ k from h), Bool.true_and]
    congr 1
    exact decide_eq_decide.2 (by omega)
  · rw [if_neg h, decide_eq_false (show ¬ (0:Int) ≤ k from h)]; rfl
theorem l1in_rank (k : Int) (n : Nat) : spec_l1In.f k 0 ((n : Int) - 1) = some (rankB k n) := by
  unfold spec_l1In.f rankB
  by_cases h : k ≥ 0
  · rw [if_pos h, decide_eq_true (show (0:Int) ≤ k from h), Bool.true_and]
    congr 1
    exact decide_eq_decide.2 (by omega)
  · rw [if_neg h, decide_eq_false (show ¬ (0:Int) ≤ k from h)]; rfl
def HeapVar (w : World) (b : Nat) (c0 c1 c2 c3 : Value) : Prop := w.heap[b]? = some (.cells #[c0, c1, c2, c3] 30 (0, 0))
theorem HeapVar.cells {w : World} {b : Nat} {c0 c1 c2 c3 : Value} (h : HeapVar w b c0 c1 c2 c3) : (w.cell? ⟨b, 0, none⟩ = some c0 ∧ w.cell? ⟨b, 1, none⟩ = some c1 ∧ w.cell? ⟨b, 2, none⟩ = some c2 ∧ w.cell? ⟨b, 3, none⟩ = some c3) ∧ (w.frozen? ⟨b, 0, none⟩ = false ∧ w.frozen? ⟨b, 1, none⟩ = false ∧ w.frozen? ⟨b, 2, none⟩ = false ∧ w.frozen? ⟨b, 3, none⟩ = false) := by
  unfold HeapVar at h
  refine ⟨⟨?_, ?_, ?_, ?_⟩, ?_, ?_, ?_, ?_⟩ <;> simp [World.cell?, World.frozen?, h]
theorem var_first (W : World) (o : Obj) : HeapVar ((W.alloc (.cells #[.int .i64 0, .int .i64 0, .int .i64 0, .slice none 0 0] 30)).alloc o) W.heap.size (.int .i64 0) (.int .i64 0) (.int .i64 0) (.slice none 0 0) := by
  unfold HeapVar
  simp only [World.alloc]
  rw [Array.getElem?_push, if_neg (by simp only [Array.size_push]; omega), Array.getElem?_push, if_pos rfl]
theorem HeapVar.put {w : World} {b : Nat} {c0 c1 c2 c3 : Value} (h : HeapVar w b c0 c1 c2 c3) (d0 d1 d2 d3 : Value) : HeapVar ((((w.setCell ⟨b, 0, none⟩ d0).setCell ⟨b, 1, none⟩ d1).setCell ⟨b, 2, none⟩ d2).setCell ⟨b, 3, none⟩ d3) b d0 d1 d2 d3 := by
  unfold HeapVar at h ⊢
  simp only [World.setCell, Array.getElem?_modify, if_true, h, Option.map_some]
  simp
theorem HeapVar.below {w w' : World} {b : Nat} {c0 c1 c2 c3 : Value} (h : HeapVar w b c0 c1 c2 c3) (hb : Below w.heap.size w w') : HeapVar w' b c0 c1 c2 c3 := (hb.block b (lt_of_block h)).trans h
theorem below_put {B : Nat} {w0 w : World} {b : Nat} (h : Below B w0 w) (hb : B ≤ b) (d0 d1 d2 d3 : Value) : Below B w0 ((((w.setCell ⟨b, 0, none⟩ d0).setCell ⟨b, 1, none⟩ d1).setCell ⟨b, 2, none⟩ d2).setCell ⟨b, 3, none⟩ d3) :=
  (((h.setCell hb d0).setCell hb d1).setCell hb d2).setCell hb d3
theorem heapEnd {fn : Func} {w : World} {b p u : Nat} {c0 c1 c2 c3 : Value} (h : fn.results = #[.cell p 30, .tmp u]) (tmps : Array Value) (hp : tmps.getD p undef = .pointer (some ⟨b, 0, none⟩)) (hv : HeapVar w b c0 c1 c2 c3) : (results fn tmps).run Try.prog w = .ok (.tuple #[.agg #[c0, c1, c2, c3], tmps.getD u undef]) w :=
  results_ct h tmps w b 30 #[c0, c1, c2, c3] (0, 0) _ hp hv Try.underlying30 rfl (by kernel_rfl)
abbrev noV : Value := .tuple #[.agg #[.int .i64 0, .int .i64 0, .int .i64 0, .slice none 0 0], .bool false]
set_option maxRecDepth 100000 in
theorem implStairAt_few (x y z k : Int) (hf : fewB x y z = false) (W : World) : Calls Try.prog 11 #[.int .i64 x, .int .i64 y, .int .i64 z, .int .i64 k] W fun e w' => e = .returned noV ∧ Below W.heap.size W w' := by
  have hs := fun W => boxStairs x y z W
  unfold stairsRes at hs
  rw [if_neg (by rw [hf]; decide)] at hs
  have h0 : Below W.heap.size W ((W.alloc (.cells #[.int .i64 0, .int .i64 0, .int .i64 0, .slice none 0 0] 30)).alloc (.cells #[.int .i64 x, .int .i64 y, .int .i64 z] 39)) := below_alloc (below_alloc (Below.refl _ _) _) _
  have H0 := Lib.hid h0
  have hlt : W.heap.size < ((W.alloc (.cells #[.int .i64 0, .int .i64 0, .int .i64 0, .slice none 0 0] 30)).alloc (.cells #[.int .i64 x, .int .i64 y, .int .i64 z] 39)).heap.size := by simp only [World.alloc, Array.size_push]; omega
  clear h0
  go_enter Try.func11, Try.ntmps11
  go_wp2_with (go_at_call 17; refine (hs _).mono ?_; rintro e w1 ⟨v, rfl, hS, hB⟩; obtain ⟨⟨c0, c1, c2, c3⟩, f0, f1, f2, f3⟩ := HeapVar.cells (show HeapVar w1 W.heap.size _ _ _ _ from (hB.block _ hlt).trans (var_first W _)))
  all_goals (refine bodyPost_ret (heapEnd rfl _ rfl (HeapVar.put (show HeapVar w1 W.heap.size _ _ _ _ from (hB.block _ hlt).trans (var_first W _)) _ _ _ _)) rfl ?_; exact ⟨rfl, below_put (H0.out.trans (hB.mono H0.out.size)) (Nat.le_refl _) _ _ _ _⟩)
theorem few_facts {x y z : Int} (h : fewB x y z = true) : ∃ a b c : Nat, x = a ∧ y = b ∧ z = c ∧ Go.Am.Sides a b c ∧ countC a b c ≤ 1000 := by
  unfold fewB at h
  simp only [Bool.and_eq_true, decide_eq_true_eq] at h
  obtain ⟨a, b, c, rfl, rfl, rfl, h1, h2, h3, h4, h5, h6⟩ := valid_facts h.1
  simp only [Int.toNat_natCast] at h
  exact ⟨a, b, c, rfl, rfl, rfl, ⟨h1, h2, h3, h4, h5, h6⟩, h.2⟩
set_option maxRecDepth 100000 in
theorem implStairAt_out (X Y Z : Nat) (k : Int) (hf : fewB (X : Int) (Y : Int) (Z : Int) = true) (LL : List (List Int)) (hLL : allL Y Z (X * Y) [] = LL) (hl : LL.length ≤ 1000) (hk : rankB k LL.length = false) (W : World) : Calls Try.prog 11 #[.int .i64 (X : Int), .int .i64 (Y : Int), .int .i64 (Z : Int), .int .i64 k] W fun e w' => e = .returned noV ∧ Below W.heap.size W w' := by
  have hs := fun W => boxStairs X Y Z W
  unfold stairsRes at hs
  rw [if_pos hf, Int.toNat_natCast, Int.toNat_natCast, Int.toNat_natCast, hLL] at hs
  have hw := within_rank k LL.length
  rw [hk] at hw
  have h0 : Below W.heap.size W ((W.alloc (.cells #[.int .i64 0, .int .i64 0, .int .i64 0, .slice none 0 0] 30)).alloc (.cells #[.int .i64 X, .int .i64 Y, .int .i64 Z] 39)) := below_alloc (below_alloc (Below.refl _ _) _) _
  have H0 := Lib.hid h0
  have hlt : W.heap.size < ((W.alloc (.cells #[.int .i64 0, .int .i64 0, .int .i64 0, .slice none 0 0] 30)).alloc (.cells #[.int .i64 X, .int .i64 Y, .int .i64 Z] 39)).heap.size := by simp only [World.alloc, Array.size_push]; omega
  have hn2 : (LL.length : Int) ≤ 1000 := by omega
  clear h0 hLL hf hl
  generalize hn : LL.length = n at *
  have Hn := Lib.hid hn
  clear hn
  go_enter Try.func11, Try.ntmps11
  go_wp2_with (first | (go_at_call 17; refine (hs _).mono ?_; rintro e w1 ⟨v, rfl, hS, hB⟩; obtain ⟨A, cp, rfl⟩ := Kd.S_slice hS; rw [Hn.out]; have hvar : HeapVar w1 W.heap.size (.int .i64 0) (.int .i64 0) (.int .i64 0) (.slice none 0 0) := (hB.block _ hlt).trans (var_first W _); have Hvar := Lib.hid hvar; clear hvar) | (go_at_call 24; refine (S.impl_within.calls k 0 _ false _ hw).mono ?_; rintro e w2 ⟨rfl, hd2⟩; have Hvar2 := Lib.hid (Hvar.out.below hd2.below); obtain ⟨⟨c0, c1, c2, c3⟩, f0, f1, f2, f3⟩ := HeapVar.cells Hvar2.out))
  all_goals (refine bodyPost_ret (heapEnd rfl _ rfl (HeapVar.put Hvar2.out _ _ _ _)) rfl ?_; exact ⟨rfl, below_put ((H0.out.trans (hB.mono H0.out.size)).trans (hd2.below.mono (H0.out.trans (hB.mono H0.out.size)).size)) (Nat.le_refl _) _ _ _ _⟩)
theorem made_put {W w3 w4 : World} {g cap b : Nat} {r : Go.Am.Row} (h : Go.Am.Made Try.prog w3 w4 g cap r) (hb : b < w3.heap.size) (hW : W.heap.size ≤ w3.heap.size) (d0 d1 d2 d3 : Value) : Go.Am.Made Try.prog W ((((w4.setCell ⟨b, 0, none⟩ d0).setCell ⟨b, 1, none⟩ d1).setCell ⟨b, 2, none⟩ d2).setCell ⟨b, 3, none⟩ d3) g cap r := by
  refine ⟨Nat.le_trans hW h.1, fun ρ => ?_⟩
  obtain ⟨⟨cur, e, fz, hk, hc, hw, hn⟩, hs⟩ := h.2 ρ
  refine ⟨⟨cur, e, fz, ?_, hc, hw, hn⟩, hs⟩
  have hne : g ≠ b := by have := h.1; omega
  rw [Below.heap_setCell _ ⟨b, 3, none⟩ _ g hne, Below.heap_setCell _ ⟨b, 2, none⟩ _ g hne, Below.heap_setCell _ ⟨b, 1, none⟩ _ g hne, Below.heap_setCell _ ⟨b, 0, none⟩ _ g hne]
  exact hk
theorem row_get {w : World} {base n cap : Nat} {cap0 : Option Addr} {ok : Nat → Prop} {v : Value} {LL : List (List Int)} (h : Kd.S (Kd.slice 3 (Kd.int .i64)) 37 w base ok v LL) (hn : LL.length = n) (K : Nat) (hK : K < n) (hv : v = .slice cap0 n cap) :
    ∃ g A c, cap0 = some ⟨g, 0, none⟩ ∧ w.cell? ⟨g, K, none⟩ = some (.slice A (LL.getD K []).length c) ∧ (Kd.int .i64).C w A (LL.getD K []).length (LL.getD K []) ∧ (LL.getD K []).length ≤ c ∧ g < w.heap.size := by
  obtain ⟨g, cp, hv', _, hg, _⟩ := Kd.S_form h (by omega)
  rw [hv] at hv'
  injection hv' with h1 _ h3
  subst h1 h3
  subst hv
  obtain ⟨c, hcl, ⟨u, rfl, hR⟩, hcell⟩ := Kd.S_get h [] (K : Int) (by omega) (by omega)
  have h0 := hcell 0 u rfl
  rw [Int.toNat_natCast] at hR h0
  obtain ⟨A, c2, rfl⟩ := Kd.R_slice hR
  have hr := Kd.R_reads' hR
  refine ⟨g, A, c2, rfl, ?_, hr.2.2, hr.2.1, hg⟩
  have e1 : (⟨g, 0, none⟩ : Addr).add (K * (Kd.slice 3 (Kd.int .i64)).sz + 0) = ⟨g, K, none⟩ := by
    show (⟨g, 0, none⟩ : Addr).add (K * 1 + 0) = _
    unfold Addr.add
    split
    · rename_i h; simp at h; subst h; rfl
    · simp
  rw [e1] at h0
  exact h0
end Go.Proofs.Ytjdmboagjeldcaa
namespace Go.Proofs.Ytjdmboagjeldcaa
open Go.RowKit S F Go.Proofs.YtjdmboagjeldcaaW.PrintWords Go.Proofs.YtjdmboagjeldcaaW.PrintLast Go.Proofs.YtjdmboagjeldcaaW.PrintMore
theorem box_second (W : World) (o1 : Obj) (x y z : Int) : ((W.alloc o1).alloc (.cells #[.int .i64 x, .int .i64 y, .int .i64 z] 39)).heap[W.heap.size + 1]? = some (.cells #[.int .i64 x, .int .i64 y, .int .i64 z] 39 (0, 0)) := by
  simp only [World.alloc]
  rw [Array.getElem?_push, if_pos (by simp only [Array.size_push])]
set_option maxRecDepth 100000 in
set_option maxHeartbeats 4000000 in
theorem implStairAt_yes (X Y Z K : Nat) (hsd : Go.Am.Sides X Y Z) (hf : fewB (X : Int) (Y : Int) (Z : Int) = true) (LL : List (List Int)) (hLL : allL Y Z (X * Y) [] = LL) (hl : LL.length ≤ 1000) (hK : K < LL.length) (N : List Int) (hN : LL.getD K [] = N) (hNl : N.length = X * Y) (s : Nat) (hst : Go.Am.stackS X Y Z N = s) (hlt64 : s < 18446744073709551616) (W : World) :
    Calls Try.prog 11 #[.int .i64 (X : Int), .int .i64 (Y : Int), .int .i64 (Z : Int), .int .i64 (K : Int)] W fun e w' => ∃ g cap, e = .returned (.tuple #[heapV X Y Z g (Go.Am.listOf X Y Z s).length cap, .bool true]) ∧ Below W.heap.size W w' ∧ Go.Am.Made Try.prog W w' g cap ⟨Go.Am.a3s (Go.Am.listOf X Y Z s), 38, false, true⟩ := by
  have hs := fun W => boxStairs X Y Z W
  unfold stairsRes at hs
  rw [if_pos hf, Int.toNat_natCast, Int.toNat_natCast, Int.toNat_natCast, hLL] at hs
  have hw := within_rank (K : Int) LL.length
  have hr1 : rankB (K : Int) LL.length = true := by unfold rankB; simp; omega
  rw [hr1] at hw
  have h0 : Below W.heap.size W ((W.alloc (.cells #[.int .i64 0, .int .i64 0, .int .i64 0, .slice none 0 0] 30)).alloc (.cells #[.int .i64 X, .int .i64 Y, .int .i64 Z] 39)) := below_alloc (below_alloc (Below.refl _ _) _) _
  have H0 := Lib.hid h0
  have hlt : W.heap.size < ((W.alloc (.cells #[.int .i64 0, .int .i64 0, .int .i64 0, .slice none 0 0] 30)).alloc (.cells #[.int .i64 X, .int .i64 Y, .int .i64 Z] 39)).heap.size := by simp only [World.alloc, Array.size_push]; omega
  have hlt2 : W.heap.size + 1 < ((W.alloc (.cells #[.int .i64 0, .int .i64 0, .int .i64 0, .slice none 0 0] 30)).alloc (.cells #[.int .i64 X, .int .i64 Y, .int .i64 Z] 39)).heap.size := by simp only [World.alloc, Array.size_push]; omega
  have hn2 : (LL.length : Int) ≤ 1000 := by omega
  clear h0 hLL hf hl hr1
  generalize hn : LL.length = n at *
  have Hn := Lib.hid hn
  have HN := Lib.hid hN
  have HNl := Lib.hid hNl
  have hKn : (K : Int) < (n : Int) := by omega
  clear hn hN hNl
  have hcs := fun (w : World) (A : Option Addr) (c : Nat) (hC : (Kd.int .i64).C w A N.length N) (hc : N.length ≤ c) => callStack hsd HNl.out hC hc
  have hch := fun (w : World) => callHeap hsd s hlt64 w
  rw [hst] at hcs
  clear hst
  go_enter Try.func11, Try.ntmps11
  go_wp2_with (first | (go_at_call 17; refine (hs _).mono ?_; rintro e w1 ⟨v, rfl, hS, hB⟩; obtain ⟨A, cp, rfl⟩ := Kd.S_slice hS; rw [Hn.out] at hS ⊢; have hvar : HeapVar w1 W.heap.size (.int .i64 0) (.int .i64 0) (.int .i64 0) (.slice none 0 0) := (hB.block _ hlt).trans (var_first W _); have hbox := (hB.block _ hlt2).trans (box_second W _ X Y Z); have Hvar := Lib.hid hvar; have Hbox := Lib.hid hbox; have HS := Lib.hid hS; clear hvar hbox hS) | (go_at_call 24; refine (S.impl_within.calls (K : Int) 0 _ true _ hw).mono ?_; rintro e w2 ⟨rfl, hd2⟩))
  obtain ⟨g, A2, c2, rfl, kc, hC, hc2, hg⟩ := row_get HS.out Hn.out K hK rfl
  rw [HN.out] at kc hC hc2
  have Hb2 := Lib.hid hd2.below
  have hvar2 := Lib.hid (Hvar.out.below Hb2.out)
  have hbox2 := Lib.hid ((Hb2.out.block _ (lt_of_block Hbox.out)).trans Hbox.out)
  have kc2 := (Hb2.out.cell (p := ⟨g, K, none⟩) hg).trans kc
  have hC2 := Lib.hid (Kd.C_below hC Hb2.out)
  clear hC kc hg
  obtain ⟨k1, k2, k3⟩ := BoxAt_of hbox2.out
  have hdr := Lib.hid (below_drew (Below.refl w2.heap.size w2))
  have Hvd := Lib.hid (show HeapVar w2.drew W.heap.size _ _ _ _ from hvar2.out)
  have Hbd := Lib.hid (show w2.drew.heap[W.heap.size + 1]? = _ from hbox2.out)
  have k1d : w2.drew.cell? ⟨W.heap.size + 1, 0, none⟩ = some (.int .i64 X) := k1
  have k2d : w2.drew.cell? ⟨W.heap.size + 1, 1, none⟩ = some (.int .i64 Y) := k2
  have k3d : w2.drew.cell? ⟨W.heap.size + 1, 2, none⟩ = some (.int .i64 Z) := k3
  have kcd : w2.drew.cell? ⟨g, K, none⟩ = some (.slice A2 N.length c2) := kc2
  go_region_law (first
    | (go_simp; go_at_call 26; refine (hcs w2.drew A2 c2 (Kd.C_below hC2.out hdr.out) hc2).mono ?_; rintro e w3 ⟨rfl, hb3⟩; have Hb3 := Lib.hid hb3; have Hvar3 := Lib.hid (Hvd.out.below hb3); have hbox3 := (hb3.block _ (lt_of_block Hbd.out)).trans Hbd.out; obtain ⟨k1e, k2e, k3e⟩ := BoxAt_of hbox3; clear hbox3 hb3)
    | (go_simp; go_at_call 25; refine (hch w3).mono ?_; rintro e w4 ⟨g4, cap4, rfl, hb4, hmade⟩; have Hb4 := Lib.hid hb4; have Hmade := Lib.hid hmade; have Hvar4 := Lib.hid (Hvar3.out.below hb4); obtain ⟨⟨c0, c1, c2, c3⟩, f0, f1, f2, f3⟩ := HeapVar.cells Hvar4.out; clear hb4 hmade))
  all_goals go_wp2_with (fail)
  all_goals (try simp only [Act.put, List.getElem_toArray, List.getElem_cons_succ, List.getElem_cons_zero, List.setIfInBounds_toArray, List.set_cons_succ, List.set_cons_zero])
  all_goals (have hbw := H0.out.trans (hB.mono H0.out.size); have hbw2 := hbw.trans (Hb2.out.mono hbw.size); have hbw3 := hbw2.trans ((show Below w2.heap.size w2 w3 from hdr.out.trans (show Below w2.heap.size w2.drew w3 from Hb3.out)).mono hbw2.size); have hbw4 := hbw3.trans (Hb4.out.mono hbw3.size))
  all_goals (refine bodyPost_ret (heapEnd rfl _ rfl (HeapVar.put Hvar4.out _ _ _ _)) rfl ?_; exact ⟨g4, cap4, rfl, below_put hbw4 (Nat.le_refl _) _ _ _ _, made_put Hmade.out (lt_of_block Hvar3.out) hbw3.size _ _ _ _⟩)
end Go.Proofs.Ytjdmboagjeldcaa
namespace Go.Proofs.Ytjdmboagjeldcaa
open Go.RowKit S F Go.Proofs.YtjdmboagjeldcaaW.PrintWords Go.Proofs.YtjdmboagjeldcaaW.PrintLast Go.Proofs.YtjdmboagjeldcaaW.PrintMore
theorem row_getN {w : World} {base n cap : Nat} {cap0 : Option Addr} {ok : Nat → Prop} {v : Value} {LL : List (List Int)} (h : Kd.N (Kd.slice 3 (Kd.int .i64)) 37 w base ok v LL) (hn : LL.length = n) (K : Nat) (hK : K < n) (hv : v = .slice cap0 n cap) :
    ∃ g A c, cap0 = some ⟨g, 0, none⟩ ∧ w.cell? ⟨g, K, none⟩ = some (.slice A (LL.getD K []).length c) ∧ (Kd.int .i64).C w A (LL.getD K []).length (LL.getD K []) ∧ (LL.getD K []).length ≤ c ∧ g < w.heap.size := by
  obtain ⟨g, cp, hv', _, hg, _⟩ := Kd.N_form h (by omega)
  rw [hv] at hv'
  injection hv' with h1 _ h3
  subst h1 h3
  subst hv
  obtain ⟨c, hcl, hk, hcell, _⟩ := Kd.N_elem h [] (K : Int) (by omega) (by omega)
  obtain ⟨A, c2, rfl, hl, hC⟩ := Kd.FK_now hk
  have h0 := hcell 0 _ rfl
  rw [Int.toNat_natCast] at hC h0 hl
  refine ⟨g, A, c2, rfl, ?_, hC, hl, hg⟩
  have e1 : K * (Kd.slice 3 (Kd.int .i64)).sz + 0 = K := by
    show K * 1 + 0 = K
    omega
  rw [e1] at h0
  exact h0
theorem var_only (W : World) : HeapVar (W.alloc (.cells #[.int .i64 0, .int .i64 0, .int .i64 0, .slice none 0 0] 30)) W.heap.size (.int .i64 0) (.int .i64 0) (.int .i64 0) (.slice none 0 0) := by
  unfold HeapVar
  simp only [World.alloc]
  rw [Array.getElem?_push, if_pos rfl]
theorem empty_V (w : World) (g : Nat) : Kd.V (Kd.int .i64) 3 w w.heap.size (fun _ => False) (.slice (some ⟨g, 0, none⟩) 0 0) ([] : List Int) := ⟨_, _, rfl, Nat.le_refl _, fun _ _ => ⟨rfl, by simp, fun h => absurd h (by simp)⟩⟩
set_option maxRecDepth 100000 in
theorem specStairAt_few (x y z k : Int) (hf : fewB x y z = false) (W : World) : Calls Try.prog 10 #[.int .i64 x, .int .i64 y, .int .i64 z, .int .i64 k] W fun e w' => e = .returned noV ∧ Below W.heap.size W w' := by
  have hs := spec_few x y z
  rw [hf] at hs
  have h0 : Below W.heap.size W (W.alloc (.cells #[.int .i64 0, .int .i64 0, .int .i64 0, .slice none 0 0] 30)) := below_alloc (Below.refl _ _) _
  have H0 := Lib.hid h0
  have Hvar := Lib.hid (var_only W)
  clear h0
  go_enter Try.func10, Try.ntmps10
  go_wp2_with (go_at_call 15; refine (S.spec_l5Few.calls 3000 x y z false _ hs).mono ?_; rintro e w2 ⟨rfl, hd2⟩; have Hvar2 := Lib.hid (Hvar.out.below hd2.below); obtain ⟨⟨c0, c1, c2, c3⟩, f0, f1, f2, f3⟩ := HeapVar.cells Hvar2.out)
  all_goals (refine bodyPost_ret (heapEnd rfl _ rfl (HeapVar.put Hvar2.out _ _ _ _)) rfl ?_; exact ⟨rfl, below_put (H0.out.trans (hd2.below.mono H0.out.size)) (Nat.le_refl _) _ _ _ _⟩)
set_option maxRecDepth 100000 in
theorem specStairAt_out (X Y Z : Nat) (k : Int) (hf : fewB (X : Int) (Y : Int) (Z : Int) = true) (n : Nat) (hc : spec_l5Count.f 3000 (X : Int) (Y : Int) (Z : Int) = some (n : Int)) (hl : n ≤ 1000) (hk : rankB k n = false) (W : World) : Calls Try.prog 10 #[.int .i64 (X : Int), .int .i64 (Y : Int), .int .i64 (Z : Int), .int .i64 k] W fun e w' => e = .returned noV ∧ Below W.heap.size W w' := by
  have hs := spec_few X Y Z
  rw [hf] at hs
  have hw := l1in_rank k n
  rw [hk] at hw
  have h0 : Below W.heap.size W (W.alloc (.cells #[.int .i64 0, .int .i64 0, .int .i64 0, .slice none 0 0] 30)) := below_alloc (Below.refl _ _) _
  have H0 := Lib.hid h0
  have Hvar := Lib.hid (var_only W)
  have hn2 : (n : Int) ≤ 1000 := by omega
  clear h0 hf hl hk
  go_enter Try.func10, Try.ntmps10
  go_wp2_with (first | (go_at_call 15; refine (S.spec_l5Few.calls 3000 X Y Z true _ hs).mono ?_; rintro e w2 ⟨rfl, hd2⟩) | (go_at_call 22; refine (S.spec_l5Count.calls 3000 X Y Z n _ hc).mono ?_; rintro e w3 ⟨rfl, hd3⟩) | (go_at_call 21; refine (S.spec_l1In.calls k 0 _ false _ hw).mono ?_; rintro e w4 ⟨rfl, hd4⟩; have Hvar2 := Lib.hid (((Hvar.out.below hd2.below).below hd3.below).below hd4.below); obtain ⟨⟨c0, c1, c2, c3⟩, f0, f1, f2, f3⟩ := HeapVar.cells Hvar2.out))
  all_goals (have hb2 := H0.out.trans (hd2.below.mono H0.out.size); have hb3 := hb2.trans (hd3.below.mono hb2.size); have hb4 := hb3.trans (hd4.below.mono hb3.size))
  all_goals (refine bodyPost_ret (heapEnd rfl _ rfl (HeapVar.put Hvar2.out _ _ _ _)) rfl ?_; exact ⟨rfl, below_put hb4 (Nat.le_refl _) _ _ _ _⟩)
set_option maxRecDepth 100000 in
set_option maxHeartbeats 4000000 in
theorem specStairAt_yes (X Y Z K : Nat) (hsd : Go.Am.Sides X Y Z) (hf : fewB (X : Int) (Y : Int) (Z : Int) = true) (n : Nat) (hc : spec_l5Count.f 3000 (X : Int) (Y : Int) (Z : Int) = some (n : Int)) (LL : List (List Int)) (hall : spec_l5All.f 3000 (X : Int) (Y : Int) (Z : Int) [] = some LL) (hLn : LL.length = n) (hl : n ≤ 1000) (hK : K < n) (N : List Int) (hN : LL.getD K [] = N) (hNl : N.length = X * Y) (s : Nat) (hst : Go.Am.stackS X Y Z N = s) (W : World) :
    Calls Try.prog 10 #[.int .i64 (X : Int), .int .i64 (Y : Int), .int .i64 (Z : Int), .int .i64 (K : Int)] W fun e w' => ∃ g cap, e = .returned (.tuple #[heapV X Y Z g (Go.Am.listOf X Y Z s).length cap, .bool true]) ∧ Below W.heap.size W w' ∧ Go.Am.Made Try.prog W w' g cap ⟨Go.Am.a3s (Go.Am.listOf X Y Z s), 38, false, true⟩ := by
  have hs := spec_few X Y Z
  rw [hf] at hs
  have hw := l1in_rank (K : Int) n
  have hr1 : rankB (K : Int) n = true := by unfold rankB; simp; omega
  rw [hr1] at hw
  have h0 : Below W.heap.size W (W.alloc (.cells #[.int .i64 0, .int .i64 0, .int .i64 0, .slice none 0 0] 30)) := below_alloc (Below.refl _ _) _
  have H0 := Lib.hid h0
  have Hvar := Lib.hid (var_only W)
  have hn2 : (n : Int) ≤ 1000 := by omega
  have hKn : (K : Int) < (n : Int) := by omega
  have Hn := Lib.hid hLn
  have HN := Lib.hid hN
  have HNl := Lib.hid hNl
  have hcs := fun (w : World) (A : Option Addr) (c : Nat) (hC : (Kd.int .i64).C w A N.length N) (hc : N.length ≤ c) => callSpecStack hsd HNl.out hC hc
  rw [hst] at hcs
  clear h0 hf hl hr1 hLn hN hNl hst
  go_enter Try.func10, Try.ntmps10
  go_wp2_with (first | (go_at_call 15; refine (S.spec_l5Few.calls 3000 X Y Z true _ hs).mono ?_; rintro e w2 ⟨rfl, hd2⟩) | (go_at_call 22; refine (S.spec_l5Count.calls 3000 X Y Z n _ hc).mono ?_; rintro e w3 ⟨rfl, hd3⟩) | (go_at_call 21; refine (S.spec_l1In.calls (K : Int) 0 _ true _ hw).mono ?_; rintro e w4 ⟨rfl, hd4⟩; have Hvar2 := Lib.hid (((Hvar.out.below hd2.below).below hd3.below).below hd4.below)) | (go_at_call 16; refine (S.spec_l5All.calls 3000 X Y Z (fun _ => False) _ 0 [] LL _ (empty_V _ _) (by simp) hall).mono ?_; rintro e w5 ⟨v, rfl, hNN, hb5⟩; obtain ⟨A, cp, rfl⟩ := Kd.N_slice hNN; rw [Hn.out] at hNN ⊢; obtain ⟨g, A2, c2, rfl, kc, hC, hcc, hg⟩ := row_getN hNN Hn.out K hK rfl; rw [HN.out] at kc hC hcc; have HNN := Lib.hid hNN; have HC := Lib.hid hC; have Hb5 := Lib.hid hb5; clear hNN hC hb5 hg) | (go_at_call 23; refine (hcs _ A2 c2 HC.out hcc).mono ?_; rintro e w6 ⟨g6, cap6, rfl, hb6, hmade⟩; have Hmade := Lib.hid hmade; have Hvar5 := Lib.hid ((Hvar2.out.below (below_alloc (Below.refl _ _) _)).below Hb5.out); have Hvar6 := Lib.hid (Hvar5.out.below hb6); obtain ⟨⟨c0, c1, c2, c3⟩, f0, f1, f2, f3⟩ := HeapVar.cells Hvar6.out; clear hmade))
  all_goals (have hb2 := H0.out.trans (hd2.below.mono H0.out.size); have hb3 := hb2.trans (hd3.below.mono hb2.size); have hb4 := hb3.trans (hd4.below.mono hb3.size); have hb4a := below_alloc hb4 (.cells #[] 3); have hb5 := hb4a.trans (Hb5.out.mono hb4a.size); have hb6b := hb5.trans (hb6.mono hb5.size))
  all_goals (refine bodyPost_ret (heapEnd rfl _ rfl (HeapVar.put Hvar6.out _ _ _ _)) rfl ?_; exact ⟨g6, cap6, rfl, below_put hb6b (Nat.le_refl _) _ _ _ _, made_put Hmade.out (lt_of_block Hvar5.out) hb5.size _ _ _ _⟩)
end Go.Proofs.Ytjdmboagjeldcaa
namespace Go.Proofs.Ytjdmboagjeldcaa
open Go.RowKit S F Go.Proofs.YtjdmboagjeldcaaW.PrintWords Go.Proofs.YtjdmboagjeldcaaW.PrintLast Go.Proofs.YtjdmboagjeldcaaW.PrintMore
def okS (x y z k : Int) : Bool := fewB x y z && rankB k (allL y.toNat z.toNat (x.toNat * y.toNat) []).length
def rowS (X Y Z K : Nat) : List Int := (allL Y Z (X * Y) []).getD K []
theorem okS_nat {x y z k : Int} (h : okS x y z k = true) : ∃ X Y Z K : Nat, x = X ∧ y = Y ∧ z = Z ∧ k = K ∧ Go.Am.Sides X Y Z := by
  unfold okS rankB at h
  simp only [Bool.and_eq_true, decide_eq_true_eq] at h
  obtain ⟨X, Y, Z, rfl, rfl, rfl, hs, _⟩ := few_facts h.1
  exact ⟨X, Y, Z, k.toNat, rfl, rfl, rfl, by omega, hs⟩
theorem okS_parts {X Y Z : Nat} {k : Int} : okS X Y Z k = (fewB X Y Z && rankB k (allL Y Z (X * Y) []).length) := by
  unfold okS
  rw [Int.toNat_natCast, Int.toNat_natCast, Int.toNat_natCast]
theorem can10 : Go.Am.Callable Try.prog 10 := ⟨_, Try.func10, by kernel_rfl, rfl⟩
theorem can11 : Go.Am.Callable Try.prog 11 := ⟨_, Try.func11, by kernel_rfl, rfl⟩
theorem implStair_no {x y z k : Int} (h : okS x y z k = false) : Go.Am.Sound Try.prog 11 [.int .i64 x, .int .i64 y, .int .i64 z, .int .i64 k] [] noV [] :=
  Go.Am.Sound.of0 can11 rfl rfl fun W => by
    cases hf : fewB x y z with
    | false => exact implStairAt_few x y z k hf W
    | true =>
      obtain ⟨X, Y, Z, rfl, rfl, rfl, hs, hc⟩ := few_facts hf
      rw [okS_parts, hf, Bool.true_and] at h
      exact implStairAt_out X Y Z k hf _ rfl (few_lists hs.x0 hs.x4 hs.y0 hs.y4 hs.z0 hs.z4 hc) h W
theorem specStair_no {x y z k : Int} (h : okS x y z k = false) : Go.Am.Sound Try.prog 10 [.int .i64 x, .int .i64 y, .int .i64 z, .int .i64 k] [] noV [] :=
  Go.Am.Sound.of0 can10 rfl rfl fun W => by
    cases hf : fewB x y z with
    | false => exact specStairAt_few x y z k hf W
    | true =>
      obtain ⟨X, Y, Z, rfl, rfl, rfl, hs, hc⟩ := few_facts hf
      have hcf := count_facts hs.x0 hs.x4 hs.y0 hs.y4 hs.z0 hs.z4 hc
      rw [okS_parts, hf, Bool.true_and, hcf.1] at h
      exact specStairAt_out X Y Z k hf _ hcf.2 hc h W
theorem rank_nat {K n : Nat} (h : rankB (K : Int) n = true) : K < n := by
  unfold rankB at h
  simp at h
  omega
theorem row_len {X Y Z K : Nat} (hz : Z ≤ 4) (hK : K < (allL Y Z (X * Y) []).length) : (rowS X Y Z K).length = X * Y := by
  unfold rowS
  rw [List.getD_eq_getElem?_getD, List.getElem?_eq_getElem hK]
  have := all_each Y Z hz (X * Y) [] (fun v hv => by cases hv) _ (List.getElem_mem hK)
  simpa using this
theorem implStair_yes {X Y Z K : Nat} (hs : Go.Am.Sides X Y Z) (ho : okS X Y Z K = true) : Go.Am.Sound Try.prog 11 [.int .i64 (X : Int), .int .i64 (Y : Int), .int .i64 (Z : Int), .int .i64 (K : Int)] [] (.tuple #[.agg #[.int .i64 (X : Int), .int .i64 (Y : Int), .int .i64 (Z : Int), Go.Am.vS 0 (Go.Am.listOf X Y Z (Go.Am.stackS X Y Z (rowS X Y Z K))).length], .bool true]) [some ⟨Go.Am.a3s (Go.Am.listOf X Y Z (Go.Am.stackS X Y Z (rowS X Y Z K))), 38, false, true⟩] := by
  rw [okS_parts, Bool.and_eq_true] at ho
  obtain ⟨X', Y', Z', e1, e2, e3, _, hc⟩ := few_facts ho.1
  obtain rfl : X = X' := by omega
  obtain rfl : Y = Y' := by omega
  obtain rfl : Z = Z' := by omega
  have hK := rank_nat ho.2
  refine Go.Am.Sound.ofF can11 rfl (Go.Am.flatA3 _ _ _ _) rfl (by simp [Go.Am.idsV, Go.Am.idsA, Go.Am.idsS, Go.Am.idsP]) fun W => ?_
  have h := implStairAt_yes X Y Z K hs ho.1 _ rfl (few_lists hs.x0 hs.x4 hs.y0 hs.y4 hs.z0 hs.z4 hc) hK (rowS X Y Z K) rfl (row_len hs.z4 hK) _ rfl (Go.Am.stackS_lt _ hs.size) W
  simpa [Go.Am.mapV, Go.Am.mpV, Go.Am.mpA, Go.Am.mpS, Go.Am.mpP, Go.Am.toReal] using h
theorem specStair_yes {X Y Z K : Nat} (hs : Go.Am.Sides X Y Z) (ho : okS X Y Z K = true) : Go.Am.Sound Try.prog 10 [.int .i64 (X : Int), .int .i64 (Y : Int), .int .i64 (Z : Int), .int .i64 (K : Int)] [] (.tuple #[.agg #[.int .i64 (X : Int), .int .i64 (Y : Int), .int .i64 (Z : Int), Go.Am.vS 0 (Go.Am.listOf X Y Z (Go.Am.stackS X Y Z (rowS X Y Z K))).length], .bool true]) [some ⟨Go.Am.a3s (Go.Am.listOf X Y Z (Go.Am.stackS X Y Z (rowS X Y Z K))), 38, false, true⟩] := by
  rw [okS_parts, Bool.and_eq_true] at ho
  obtain ⟨X', Y', Z', e1, e2, e3, _, hc⟩ := few_facts ho.1
  obtain rfl : X = X' := by omega
  obtain rfl : Y = Y' := by omega
  obtain rfl : Z = Z' := by omega
  have hK := rank_nat ho.2
  have hcf := count_facts hs.x0 hs.x4 hs.y0 hs.y4 hs.z0 hs.z4 hc
  have hxy : X * Y ≤ 4 * 4 := Nat.mul_le_mul hs.x4 hs.y4
  refine Go.Am.Sound.ofF can10 rfl (Go.Am.flatA3 _ _ _ _) rfl (by simp [Go.Am.idsV, Go.Am.idsA, Go.Am.idsS, Go.Am.idsP]) fun W => ?_
  have h := specStairAt_yes X Y Z K hs ho.1 _ hcf.2 _ (spec_all X Y Z hs.y0 hs.y4 hs.x4 hs.z4 (X * Y) [] 3000 (by simp) (fun v hv => by cases hv) (by omega)) hcf.1 hc (by rw [← hcf.1]; exact hK) (rowS X Y Z K) rfl (row_len hs.z4 hK) _ rfl W
  simpa [Go.Am.mapV, Go.Am.mpV, Go.Am.mpA, Go.Am.mpS, Go.Am.mpP, Go.Am.toReal] using h
end Go.Proofs.Ytjdmboagjeldcaa
