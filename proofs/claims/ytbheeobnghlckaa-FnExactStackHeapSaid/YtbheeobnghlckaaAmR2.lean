/- The frame of all our walks, rows, second part: slices of triples and of numbers as arguments by themselves. No condition. -/
import Derived.Test.YtbheeobnghlckaaAmR
import Derived.Test.YtbheeobnghlckaaAmV
set_option linter.unusedVariables false
set_option linter.unusedSimpArgs false
namespace Go.Am
open Go.RowKit Go.ChangeShapes Go.WideShapes Go.ChangeAt

theorem open_slice_cell {P : Program} {W : World} {b0 : Nat} {ts te : TypeId} {v : Value} (hts : P.underlying ts = some (.slice te)) (hval : Value.okWide P W .any b0 ts v) :
    (∃ len cap, v = .slice none len cap) ∨ ∃ (a : Addr) (len cap : Nat), v = .slice (some a) len cap ∧ a.spot = none ∧ W.has P .any b0 a te cap := by
  unfold Value.okWide at hval
  rw [hts] at hval
  simp only at hval
  unfold Cell.okWide at hval
  rw [hts] at hval
  simp only at hval
  unfold Cell.ok at hval
  rw [hts] at hval
  cases v <;> simp only at hval <;> first | exact hval.elim | skip
  case slice a len cap =>
    cases a with
    | none => exact Or.inl ⟨len, cap, rfl⟩
    | some a => exact Or.inr ⟨a, len, cap, rfl, hval.2.2.2.1, hval.2.2⟩

/-- what a slice of numbers holds -/
theorem nums_of_trod {HT : Type} {enc : TypeId × Value → HT} {P : Program} {W : World} {base : Nat} {spare : Nat → Bool} {held : Bool} {ts te : TypeId} {fuel : Nat} {cs : List Value} {x : DataW HT × List MemPlace} (hts : P.underlying ts = some (.slice te)) (hte : P.underlying te = some (.int .i64)) (hce : P.cellsOf te = 1)
    (h : DataW.trod enc P W base spare held fuel ts cs = some x) :
    cs = [.slice none 0 0] ∨ ∃ (a : Addr) (cap : Nat) (L : List Int), cs = [.slice (some a) L.length cap] ∧ L.length ≤ cap ∧ cap ≤ maxLen ∧ (∀ n ∈ L, (Lit.int .i64 n).wf = true) ∧ ∀ (j : Nat) (v : Value), (nums L)[j]? = some v → W.cell? (a.add j) = some v := by
  rcases open_ints hts hte hce h with h0 | ⟨a, len, cap, zs, rfl, _, hl, hm, hz, _, hc, hwf⟩
  · exact Or.inl h0.1
  right
  have hle : len ≤ zs.length := by rw [hz]; split <;> omega
  have hlen : (zs.take len).length = len := by simp; omega
  refine ⟨a, cap, zs.take len, by rw [hlen], by omega, hm, fun n hn => hwf n (List.mem_of_mem_take hn), fun j v hv => ?_⟩
  have hj := lt_of_some hv
  rw [nums_length, hlen] at hj
  rw [hc j (by omega)]
  simp only [nums, List.getElem?_map, List.getElem?_take] at hv
  rw [if_pos hj, List.getElem?_eq_getElem (show j < zs.length by omega)] at hv
  simp only [Option.map_some, Option.some.injEq] at hv
  rw [← hv, List.getD_eq_getElem?_getD, List.getElem?_eq_getElem (show j < zs.length by omega)]
  rfl
theorem open_cells {HT : Type} {enc : TypeId × Value → HT} {P : Program} {W : World} {base b0 : Nat} {spare : Nat → Bool} {held : Bool} {ts ta ti : TypeId} {v : Value} {d : DataW HT} {ps : List MemPlace} (hts : P.underlying ts = some (.slice ta)) (hta : P.underlying ta = some (.array 3 ti)) (hti : P.underlying ti = some (.int .i64)) (hci : P.cellsOf ti = 1) (hca : P.cellsOf ta = 3)
    (hval : Value.okWide P W .any b0 ts v) (hd : DataW.Trod enc P W base spare held ts v d ps) :
    v = .slice none 0 0 ∨ ∃ (a : Addr) (cap : Nat) (L : List A3), v = .slice (some a) L.length cap ∧ L.length ≤ cap ∧ cap ≤ maxLen ∧ a.spot = none ∧ W.has P .any b0 a ta cap ∧ ∀ (j : Nat) (u : Value), (a3s L)[j]? = some u → W.cell? (a.add j) = some u := by
  obtain ⟨fuel, hd⟩ := hd
  rcases open_slice_cell hts hval with ⟨len, cap, rfl⟩ | ⟨a, len, cap, rfl, hsp, hhas⟩
  · rcases open_a3s hts hta hti hci hca hd with h | ⟨a, cap', L, h, _⟩
    · left; simpa [Value.cells] using h
    · simp [Value.cells] at h
  · rcases open_a3s hts hta hti hci hca hd with h | ⟨a', cap', L, h, h1, h2, h3⟩
    · simp [Value.cells] at h
    · simp [Value.cells] at h
      obtain ⟨rfl, rfl, rfl⟩ := h
      exact Or.inr ⟨a, cap, L, rfl, h1, h2, hsp, hhas, h3⟩
theorem open_nums {HT : Type} {enc : TypeId × Value → HT} {P : Program} {W : World} {base b0 : Nat} {spare : Nat → Bool} {held : Bool} {ts te : TypeId} {v : Value} {d : DataW HT} {ps : List MemPlace} (hts : P.underlying ts = some (.slice te)) (hte : P.underlying te = some (.int .i64)) (hce : P.cellsOf te = 1)
    (hval : Value.okWide P W .any b0 ts v) (hd : DataW.Trod enc P W base spare held ts v d ps) :
    v = .slice none 0 0 ∨ ∃ (a : Addr) (cap : Nat) (L : List Int), v = .slice (some a) L.length cap ∧ L.length ≤ cap ∧ cap ≤ maxLen ∧ a.spot = none ∧ W.has P .any b0 a te cap ∧ (∀ n ∈ L, (Lit.int .i64 n).wf = true) ∧ ∀ (j : Nat) (u : Value), (nums L)[j]? = some u → W.cell? (a.add j) = some u := by
  obtain ⟨fuel, hd⟩ := hd
  rcases open_slice_cell hts hval with ⟨len, cap, rfl⟩ | ⟨a, len, cap, rfl, hsp, hhas⟩
  · rcases nums_of_trod hts hte hce hd with h | ⟨a, cap', L, h, _⟩
    · left; simpa [Value.cells] using h
    · simp [Value.cells] at h
  · rcases nums_of_trod hts hte hce hd with h | ⟨a', cap', L, h, h1, h2, hwf, h3⟩
    · simp [Value.cells] at h
    · simp [Value.cells] at h
      obtain ⟨rfl, rfl, rfl⟩ := h
      exact Or.inr ⟨a, cap, L, rfl, h1, h2, hsp, hhas, hwf, h3⟩
theorem repRow_nums {P : Program} {ρ : Ren} {W : World} {a : Addr} {cap : Nat} {L : List Int} {ta : TypeId} {n : Nat} (hca : P.cellsOf ta = 1) (hs : P.underlying ta ≠ none → W.has P .any n a ta cap) (hu : P.underlying ta ≠ none)
    (hcell : ∀ (j : Nat) (v : Value), (nums L)[j]? = some v → W.cell? (a.add j) = some v) (hlen : L.length ≤ cap) : RepRow P ρ W ⟨a.block, a.off, cap⟩ ⟨nums L, ta, false, false⟩ := by
  obtain ⟨_, hspot, row, cells, hsh, _⟩ := hs hu
  unfold World.shape? at hsh
  split at hsh
  · rename_i cur e fz hb
    refine ⟨⟨cur, e, fz, hb, fun j v hv => ?_, fun h => (by cases h), fun _ => ?_⟩, fun v hv => ?_⟩
    · have h := hcell j v hv
      have hfl := flatNums L ta false false v (List.mem_of_getElem? hv)
      rw [mapS, hfl.2]
      unfold World.cell? at h
      have hab : (a.add j).block = a.block := by unfold Addr.add; split <;> rfl
      have hao : (a.add j).off = a.off + j := by
        unfold Addr.add
        split
        · rename_i h0; rw [h0, Nat.add_zero]
        · rfl
      rw [hab, hb] at h
      simp only at h
      split at h
      · cases h
      · rw [hao] at h; exact h
    · simp only [nums_length, hca]; omega
    · exact scal_flat ((List.all_eq_true.1 (nums_all L)) v hv)
  · cases hsh
end Go.Am
