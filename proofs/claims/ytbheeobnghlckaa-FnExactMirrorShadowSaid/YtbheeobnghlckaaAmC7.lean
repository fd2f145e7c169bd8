import Derived.Test.YtbheeobnghlckaaAmC6
set_option linter.unusedVariables false
set_option linter.unusedSimpArgs false
namespace Go.Am
open Go.RowKit Go.ChangeShapes Go.WideShapes Go.ChangeAt
def RowAt (P : Program) (W : World) (a : Addr) (cap : Nat) (r : Row) : Prop := a.spot = none ∧ r.wr = false ∧ FlatRow r ∧ ∀ ρ : Ren, RepRow P ρ W ⟨a.block, a.off, cap⟩ r
def locsOf (rs : List (Addr × Nat × Row)) : Ren := fun i => match rs[i]? with | some p => ⟨p.1.block, p.1.off, p.2.1⟩ | none => ⟨0, 0, 0⟩
theorem rep_list {P : Program} {W : World} (rs : List (Addr × Nat × Row)) (h : ∀ p ∈ rs, RowAt P W p.1 p.2.1 p.2.2) : Rep P (locsOf rs) (rs.map fun p => some p.2.2) W := by
  refine rep_ro (fun r hr => ?_) fun i r hi => ?_
  · obtain ⟨p, hp, he⟩ := List.mem_map.1 hr
    simp only [Option.some.injEq] at he
    exact he ▸ (h p hp).2.2.1
  · rw [List.getElem?_map, Option.map_eq_some_iff] at hi
    obtain ⟨p, hp, he⟩ := hi
    simp only [Option.some.injEq] at he
    subst he
    have hm := h p (List.mem_of_getElem? hp)
    refine ⟨hm.2.1, ?_⟩
    unfold locsOf; rw [hp]
    exact hm.2.2.2 _
theorem Sound.topL {P : Program} {f : FuncId} {args : List Value} {H' : Heap} {v : Value} {W : World} (rs : List (Addr × Nat × Row)) (hS : Sound P f args (rs.map fun p => some p.2.2) v H') (h : ∀ p ∈ rs, RowAt P W p.1 p.2.1 p.2.2)
    (ha : ∀ x ∈ args, ∀ i ∈ idsV x, i < rs.length) (hv : fixV v = true) : Calls P f (args.map (mapV (locsOf rs))).toArray W fun e W' => e = .returned v ∧ Below W.heap.size W W' :=
  hS.top (fun i r hi => by
    rw [List.getElem?_map, Option.map_eq_some_iff] at hi
    obtain ⟨p, hp, he⟩ := hi
    simp only [Option.some.injEq] at he
    exact he ▸ (h p (List.mem_of_getElem? hp)).2.1) (rep_list rs h) (fun x hx i hi => by rw [List.length_map]; exact ha x hx i hi) hv
theorem rowAt_nums {P : Program} {W : World} {b0 : Nat} {a : Addr} {cap : Nat} {L : List Int} {ta : TypeId} (hca : P.cellsOf ta = 1) (hu : P.underlying ta ≠ none) (hsp : a.spot = none) (hs : W.has P .any b0 a ta cap)
    (hcell : ∀ (j : Nat) (v : Value), (nums L)[j]? = some v → W.cell? (a.add j) = some v) (hlen : L.length ≤ cap) : RowAt P W a cap ⟨nums L, ta, false, false⟩ :=
  ⟨hsp, rfl, flatNums _ _ _ _, fun _ => repRow_nums hca (fun _ => hs) hu hcell hlen⟩
def IsNums (P : Program) (W : World) (ta : TypeId) (v : Value) : Prop := v = .slice none 0 0 ∨ ∃ (a : Addr) (cap : Nat) (L : List Int), v = .slice (some a) L.length cap ∧ L.length ≤ 9223372036854775807 ∧ (∀ n ∈ L, (Lit.int .i64 n).wf = true) ∧ RowAt P W a cap ⟨nums L, ta, false, false⟩
theorem maxLen_is : maxLen = 9223372036854775807 := rfl
theorem isNums_cell {HT : Type} {enc : TypeId × Value → HT} {P : Program} {W : World} {base b0 : Nat} {spare : Nat → Bool} {held : Bool} {ts te : TypeId} {fuel : Nat} {c : Value} {x : DataW HT × List MemPlace} (hts : P.underlying ts = some (.slice te)) (hte : P.underlying te = some (.int .i64)) (hce : P.cellsOf te = 1)
    (hok : Cell.okWide P W .any b0 ts c) (h : DataW.trod enc P W base spare held fuel ts [c] = some x) : IsNums P W te c := by
  have hval : Value.okWide P W .any b0 ts c := by unfold Value.okWide; rw [hts]; exact hok
  rcases open_slice_cell hts hval with ⟨len, cap, rfl⟩ | ⟨a, len, cap, rfl, hsp, hhas⟩
  · rcases nums_of_trod hts hte hce h with h | ⟨a, cap', L, h, _⟩
    · left; simpa using h
    · simp at h
  · rcases nums_of_trod hts hte hce h with h | ⟨a', cap', L, h, h1, h2, hwf, h3⟩
    · simp at h
    · simp at h
      obtain ⟨rfl, rfl, rfl⟩ := h
      exact Or.inr ⟨a, cap, L, rfl, by have := maxLen_is; omega, hwf, rowAt_nums hce (by rw [hte]; simp) hsp hhas h3 h1⟩
theorem isShadow {HT : Type} {enc : TypeId × Value → HT} {P : Program} {W : World} {base b0 : Nat} {spare : Nat → Bool} {held : Bool} {t ti ts : TypeId} {f0 f1 f2 f3 f4 f5 : Field} {v : Value} {d : DataW HT} {ps : List MemPlace}
    (hu : P.underlying t = some (.struct #[f0, f1, f2, f3, f4, f5])) (h0 : f0.type = ti ∧ f0.offset = 0) (h1 : f1.type = ti ∧ f1.offset = 1) (h2 : f2.type = ti ∧ f2.offset = 2) (h3 : f3.type = ts ∧ f3.offset = 3) (h4 : f4.type = ts ∧ f4.offset = 4) (h5 : f5.type = ts ∧ f5.offset = 5)
    (hts : P.underlying ts = some (.slice ti)) (hti : P.underlying ti = some (.int .i64)) (hci : P.cellsOf ti = 1) (hcs : P.cellsOf ts = 1) (hct : P.cellsOf t = 6)
    (htys : P.cellTypes P.depth t = some [ti, ti, ti, ts, ts, ts]) (hval : Value.okWide P W .any b0 t v) (hd : DataW.Trod enc P W base spare held t v d ps) :
    ∃ (x y z : Int) (u1 u2 u3 : Value), v = .agg #[.int .i64 x, .int .i64 y, .int .i64 z, u1, u2, u3] ∧ (Lit.int .i64 x).wf = true ∧ (Lit.int .i64 y).wf = true ∧ (Lit.int .i64 z).wf = true ∧ IsNums P W ti u1 ∧ IsNums P W ti u2 ∧ IsNums P W ti u3 := by
  unfold Value.okWide at hval
  rw [hu] at hval
  simp only at hval
  obtain ⟨cs, rfl, hsz, ts', hty, _, hok⟩ := hval
  obtain ⟨fuel, hd⟩ := hd
  obtain ⟨xs, m, _, _, hlen, hxs, hel⟩ := DataW.trod_struct hu hd
  rw [hct] at hsz
  obtain ⟨l, rfl⟩ : ∃ l, cs = List.toArray l := ⟨cs.toList, by simp⟩
  match l, hsz with
  | [c0, c1, c2, c3, c4, c5], _ =>
    have el : ∀ (i : Nat) (f : Field), #[f0, f1, f2, f3, f4, f5][i]? = some f → ∃ y, DataW.trod enc P W base spare held m f.type (([c0, c1, c2, c3, c4, c5].drop f.offset).take (P.cellsOf f.type)) = some y := by
      intro i f hf
      have h := hel i f hf
      have hi : i < xs.length := by rw [hxs]; exact (Array.getElem?_eq_some_iff.1 hf).1
      rw [List.getElem?_eq_getElem hi] at h
      exact ⟨_, h⟩
    obtain ⟨y0, e0⟩ := el 0 f0 rfl
    obtain ⟨y1, e1⟩ := el 1 f1 rfl
    obtain ⟨y2, e2⟩ := el 2 f2 rfl
    obtain ⟨y3, e3⟩ := el 3 f3 rfl
    obtain ⟨y4, e4⟩ := el 4 f4 rfl
    obtain ⟨y5, e5⟩ := el 5 f5 rfl
    rw [h0.1, h0.2, hci] at e0
    rw [h1.1, h1.2, hci] at e1
    rw [h2.1, h2.2, hci] at e2
    rw [h3.1, h3.2, hcs] at e3
    rw [h4.1, h4.2, hcs] at e4
    rw [h5.1, h5.2, hcs] at e5
    simp only [List.drop_zero, List.drop_succ_cons, List.take_succ_cons, List.take_zero] at e0 e1 e2 e3 e4 e5
    obtain ⟨x, hx, _, wx⟩ := DataW.trod_int hti e0
    obtain ⟨y, hy, _, wy⟩ := DataW.trod_int hti e1
    obtain ⟨z, hz, _, wz⟩ := DataW.trod_int hti e2
    simp at hx hy hz
    subst hx hy hz
    rw [hty] at htys
    simp only [Option.some.injEq] at htys
    subst htys
    have cell : ∀ (i : Nat) (c : Value), #[.int .i64 x, .int .i64 y, .int .i64 z, c3, c4, c5][i]? = some c → [ti, ti, ti, ts, ts, ts][i % [ti, ti, ti, ts, ts, ts].length]? = some ts → Cell.okWide P W .any b0 ts c := by
      intro i c hc ht
      obtain ⟨u, hu3, hc⟩ := hok i c hc
      rw [ht] at hu3
      simp only [Option.some.injEq] at hu3
      exact hu3 ▸ hc
    exact ⟨x, y, z, c3, c4, c5, rfl, wx, wy, wz, isNums_cell hts hti hci (cell 3 c3 rfl rfl) e3, isNums_cell hts hti hci (cell 4 c4 rfl rfl) e4, isNums_cell hts hti hci (cell 5 c5 rfl rfl) e5⟩
end Go.Am
