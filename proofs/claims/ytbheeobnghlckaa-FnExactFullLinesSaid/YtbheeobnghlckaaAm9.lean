/- The frame of all our walks, part 9: append. No condition. -/
import Derived.Test.YtbheeobnghlckaaAm8
set_option linter.unusedVariables false
set_option linter.unusedSimpArgs false
namespace Go.Am
open Go.RowKit

/-- what a slice holds -/
def readS (H : Heap) (size : Nat) (x : Value) : Option (List Value) :=
  match x with
  | .slice (some a) m _ => match row? H a.block with
    | some r => if a.off + m * size ≤ r.cells.length then some ((r.cells.drop a.off).take (m * size)) else none
    | none => none
  | _ => none

theorem readS_sound {P : Program} {ρ : Ren} {H : Heap} {w : World} (h : Rep P ρ H w) {size : Nat} {a : Addr} {m c : Nat} {l : List Value} (hr : readS H size (.slice (some a) m c) = some l) :
    l.length = m * size ∧ (∀ (j : Nat) (u : Value), (l.map (mapS ρ))[j]? = some u → w.cell? ((⟨(ρ a.block).blk, (ρ a.block).off + a.off, none⟩ : Addr).add j) = some u) ∧ (∀ u ∈ l, scal u = true) ∧ ∀ u ∈ l, ∀ k ∈ idsS u, k < H.length := by
  unfold readS at hr
  simp only at hr
  split at hr
  · rename_i r hrow
    split at hr
    · rename_i hle
      simp only [Option.some.injEq] at hr
      subst hr
      have hR := h.row _ _ (row?_some hrow)
      refine ⟨by simp; omega, ?_, ?_, ?_⟩
      · intro j u hu
        rw [List.getElem?_map] at hu
        cases hj : ((r.cells.drop a.off).take (m * size))[j]? with
        | none => rw [hj] at hu; cases hu
        | some y =>
          rw [hj] at hu
          simp only [Option.map_some, Option.some.injEq] at hu
          subst hu
          have hy : r.cells[a.off + j]? = some y := by
            rw [List.getElem?_take] at hj
            split at hj
            · simpa using hj
            · cases hj
          rw [Addr.add_lit, Nat.add_assoc]
          exact cell_at hR hy
      · intro u hu
        exact hR.scal u (List.mem_of_mem_drop (List.mem_of_mem_take hu))
      · intro u hu
        exact h.cl _ _ (row?_some hrow) u (List.mem_of_mem_drop (List.mem_of_mem_take hu))
    · cases hr
  · cases hr

def opAppend (P : Program) (H : Heap) (t : TypeId) (s x : Value) : Option (Value × Heap) :=
  match tiOf P t with
  | some ⟨.slice e, _, _, _⟩ => match tiOf P e with
    | some te =>
      if 0 < te.size ∧ te.zero.cells.toList.length = te.size then
        (match s, x with
        | .slice none 0 0, .slice none 0 0 => some (.slice none 0 0, H)
        | .slice none 0 0, .slice (some a) m c => match readS H te.size (.slice (some a) m c) with
          | some l => if m = 0 then some (.slice none 0 0, H) else if m * te.bytes ≤ 140737488355328 ∧ m ≤ 1125899906842624 then some (.slice (some ⟨H.length, 0, none⟩) m 0, H ++ [some ⟨l, e, false, true⟩]) else none
          | none => none
        | .slice (some b) n 0, .slice none 0 0 => match row? H b.block with
          | some r => if r.wr = true ∧ r.box = false ∧ r.elem = e ∧ b.off = 0 ∧ r.cells.length = n * te.size then some (.slice (some b) n 0, H) else none
          | none => none
        | .slice (some b) n 0, .slice (some a) m c => match row? H b.block, readS H te.size (.slice (some a) m c) with
          | some r, some l => if r.wr = true ∧ r.box = false ∧ r.elem = e ∧ b.off = 0 ∧ r.cells.length = n * te.size ∧ (n + m) * te.bytes ≤ 140737488355328 ∧ n + m ≤ 1125899906842624 then
              some (.slice (some ⟨H.length, 0, none⟩) (n + m) 0, H.set b.block none ++ [some ⟨r.cells ++ l, e, false, true⟩]) else none
          | _, _ => none
        | _, _ => none)
      else none
    | none => none
  | _ => none

theorem opAppend_sound {P : Program} {ρ : Ren} {H : Heap} {w : World} {t ty : TypeId} {s x v : Value} {H' : Heap} (h : Rep P ρ H w) (hs : ∀ i ∈ idsV s, i < H.length)
    (ho : opAppend P H t s x = some (v, H')) : OS P ρ H w (Builtin.append_ #[t, t] ty #[mapV ρ s, mapV ρ x]) v H' := by
  unfold opAppend at ho
  split at ho
  · rename_i e _ _ _ hti
    obtain ⟨i0, d, hi0, hd, hz0, hs0, _, hk⟩ := tiOf_spec hti
    have hd' := tk_slice hk
    subst hd'
    split at ho
    · rename_i te hte
      obtain ⟨i1, d1, hi1, hd1, hz1, hs1, hb1, hk1⟩ := tiOf_spec hte
      split at ho
      · rename_i hsz
        obtain ⟨hsz, hzl⟩ := hsz
        have hzs : te.zero.cells.size = te.size := by simpa using hzl
        split at ho
        · simp only [Option.some.injEq, Prod.mk.injEq] at ho
          obtain ⟨rfl, rfl⟩ := ho
          refine OS.pure h ?_ (by simp [idsV, idsA, idsS, idsP])
          simp [Builtin.append_, run_underlying hd, sizeOf, typeInfo, hi1, Builtin.lenOf, Builtin.firstCells, mapV, mpV, mpA, mpS, mpP]
        · rename_i a m c
          split at ho
          · rename_i l hl
            obtain ⟨l1, l2, l3, l4⟩ := readS_sound h hl
            have hmx : mapV ρ (.slice (some a) m c) = .slice (some ⟨(ρ a.block).blk, (ρ a.block).off + a.off, none⟩) m ((ρ a.block).cap - c) := by simp [mapV, mpV, mpA, mpS, mpP, toReal]
            split at ho
            · rename_i hm
              subst hm
              simp only [Option.some.injEq, Prod.mk.injEq] at ho
              obtain ⟨rfl, rfl⟩ := ho
              refine OS.pure h ?_ (by simp [idsV, idsA, idsS, idsP])
              rw [hmx]
              simp [Builtin.append_, run_underlying hd, sizeOf, typeInfo, hi1, Builtin.lenOf, Builtin.firstCells, mapV, mpV, mpA, mpS, mpP, loadCells, loadCellsFrom]
            · rename_i hm
              split at ho
              · rename_i hb
                simp only [Option.some.injEq, Prod.mk.injEq] at ho
                obtain ⟨rfl, rfl⟩ := ho
                have hr := run_append_nil (P := P) w t ty e i1 te.zero hd hi1 hz1 ⟨(ρ a.block).blk, (ρ a.block).off + a.off, none⟩ m ((ρ a.block).cap - c) (l.map (mapS ρ)) (by simp [l1, hs1]) l2 (by omega) (by omega) (by rw [hb1]; omega)
                have hge := grownCap_ge w m 0 e
                refine ⟨_, w.drew.alloc (.cells ((l.map (mapS ρ)).toArray ++ Builtin.zeroCells te.zero.cells (grownCap w m 0 e - m)) e), ?_, adv_push h ⟨l, e, false, true⟩ _ (grownCap w m 0 e) rfl rfl rfl rfl ?_ l4 l3 (fun _ => ⟨?_, ?_⟩) (fun h => by cases h), by simp [idsV, idsA, idsS, idsP]⟩
                · rw [hmx, show mapV ρ (.slice none 0 0) = .slice none 0 0 from rfl, hr]
                  congr 1
                  simp [mapV, mpV, mpA, mpS, mpP, toReal, updR_eq]
                · intro j u hu
                  rw [Array.getElem?_append_left (by simpa using lt_of_some hu)]
                  simpa using ⟨u, hu, rfl⟩
                · exact grownCap_le_maxLen w m 0 e (by simp only [maxLen]; omega)
                · simp only [Array.size_append, List.size_toArray, List.length_map, size_zeroCells, hzs, l1, cellsOf_ti hte]
                  rw [← Nat.add_mul]
                  congr 1
                  omega
              · cases ho
          · cases ho
        · rename_i b n
          split at ho
          · rename_i r hr
            split at ho
            · rename_i hc
              obtain ⟨c1, c2, c3, c4, c5⟩ := hc
              simp only [Option.some.injEq, Prod.mk.injEq] at ho
              obtain ⟨rfl, rfl⟩ := ho
              obtain ⟨⟨cur, e', fz, hb, hcu, hwr, hlen⟩, hsc⟩ := h.row _ _ (row?_some hr)
              obtain ⟨h0, he, hf, hbx, _⟩ := hwr c1
              have hle := hlen c2
              rw [c3, cellsOf_ti hte, c5] at hle
              have hn : n ≤ (ρ b.block).cap := Nat.le_of_mul_le_mul_right hle hsz
              refine OS.pure h ?_ hs
              simp [Builtin.append_, run_underlying hd, sizeOf, typeInfo, hi1, Builtin.lenOf, Builtin.firstCells, mapV, mpV, mpA, mpS, mpP, toReal, hn, storeCells]
            · cases ho
          · cases ho
        · rename_i b n a m c
          split at ho
          · rename_i r l hr hl
            split at ho
            · rename_i hc
              obtain ⟨c1, c2, c3, c4, c5, c6, c7⟩ := hc
              simp only [Option.some.injEq, Prod.mk.injEq] at ho
              obtain ⟨rfl, rfl⟩ := ho
              obtain ⟨l1, l2, l3, l4⟩ := readS_sound h hl
              have hr' := row?_some hr
              have hrow := h.row _ _ hr'
              have hil : b.block < H.length := lt_of_some hr'
              obtain ⟨⟨cur, e', fz, hb, hcu, hwr, hlen⟩, hsc⟩ := hrow
              obtain ⟨h0, he, hf, hbx, _⟩ := hwr c1
              obtain ⟨hcm, hcs⟩ := hbx c2
              rw [c3, cellsOf_ti hte] at hcs
              subst hf
              rw [c3] at he
              subst he
              have hmx : mapV ρ (.slice (some a) m c) = .slice (some ⟨(ρ a.block).blk, (ρ a.block).off + a.off, none⟩) m ((ρ a.block).cap - c) := by simp [mapV, mpV, mpA, mpS, mpP, toReal]
              have hms : mapV ρ (.slice (some b) n 0) = .slice (some ⟨(ρ b.block).blk, 0, none⟩) n (ρ b.block).cap := by simp [mapV, mpV, mpA, mpS, mpP, toReal, h0, c4]
              have h1 : ∀ u ∈ l.map (mapS ρ), u.oneCell' = true := by
                intro u hu
                obtain ⟨y, hy, rfl⟩ := List.mem_map.1 hu
                exact oneCell_of_scal (by rw [mapS, scal_mpS]; exact l3 y hy)
              have hcl2 : ∀ u ∈ r.cells ++ l, ∀ k ∈ idsS u, k < H.length := fun u hu => by
                rcases List.mem_append.1 hu with hu | hu
                · exact h.cl _ _ hr' u hu
                · exact l4 u hu
              have hsc2 : ∀ u ∈ r.cells ++ l, scal u = true := fun u hu => by
                rcases List.mem_append.1 hu with hu | hu
                · exact hsc u hu
                · exact l3 u hu
              have hcur : ∀ (j : Nat) (u : Value), r.cells[j]? = some u → cur[j]? = some (mapS ρ u) := fun j u hu => by have := hcu j u hu; rwa [h0, Nat.zero_add] at this
              by_cases hroom : n + m ≤ (ρ b.block).cap
              · have hfit : n * i1.size + (l.map (mapS ρ)).length ≤ cur.size := by
                  rw [List.length_map, l1, hcs, hs1, ← Nat.add_mul]; exact Nat.mul_le_mul_right _ hroom
                have hrun := run_append_room (P := P) w t ty e' i1 hd hi1 (ρ b.block).blk n (ρ b.block).cap cur hb ⟨(ρ a.block).blk, (ρ a.block).off + a.off, none⟩ m ((ρ a.block).cap - c) (l.map (mapS ρ)) (by simp [l1, hs1]) l2 h1 hroom hfit
                have st := adv_store h b.block r hr' c1 (r.cells ++ l) (cur.toList.take (n * i1.size) ++ l.map (mapS ρ) ++ cur.toList.drop (n * i1.size + (l.map (mapS ρ)).length)).toArray
                  (by
                    intro cur' e2 fz' hb'
                    rw [hb] at hb'
                    simp only [Option.some.injEq, Obj.cells.injEq] at hb'
                    obtain ⟨rfl, _, _⟩ := hb'
                    simp
                    simp at hfit
                    omega)
                  (by
                    intro j u hu
                    have hlr : r.cells.length = n * i1.size := by rw [c5, hs1]
                    simp only [List.getElem?_toArray]
                    rcases Nat.lt_or_ge j r.cells.length with hj | hj
                    · rw [List.getElem?_append_left hj] at hu
                      rw [List.append_assoc, List.getElem?_append_left (by simp; omega), List.getElem?_take_of_lt (by omega)]
                      simpa using hcur j u hu
                    · rw [List.getElem?_append_right hj] at hu
                      have hjl := lt_of_some hu
                      rw [List.append_assoc, List.getElem?_append_right (by simp; omega), List.getElem?_append_left (by simp; omega), List.getElem?_map]
                      have e3 : (cur.toList.take (n * i1.size)).length = r.cells.length := by simp; omega
                      rw [e3, hu]
                      rfl)
                  hcl2 hsc2
                have mv := adv_move st.rep b.block { r with cells := r.cells ++ l } (by rw [List.getElem?_set_self hil])
                have both := st.trans mv
                rw [List.set_set, List.length_set] at both
                have hre : ({ r with cells := r.cells ++ l } : Row) = ⟨r.cells ++ l, e', false, true⟩ := by cases r; simp at c1 c2 c3; simp [c1, c2, c3]
                rw [hre] at both
                refine ⟨_, _, ?_, both, by simp [idsV, idsA, idsS, idsP]⟩
                rw [hms, hmx, hrun]
                congr 1
                simp [mapV, mpV, mpA, mpS, mpP, toReal, updR_eq, h0]
              · have hrun := run_append_grow (P := P) w t ty e' i1 te.zero hd hi1 hz1 ⟨(ρ b.block).blk, 0, none⟩ n (ρ b.block).cap (r.cells.map (mapS ρ)) (by simp [c5, hs1])
                  (by
                    intro j u hu
                    rw [List.getElem?_map] at hu
                    cases hj : r.cells[j]? with
                    | none => rw [hj] at hu; cases hu
                    | some y =>
                      rw [hj] at hu
                      simp only [Option.map_some, Option.some.injEq] at hu
                      subst hu
                      rw [Addr.add_lit, cell_of_row w _ _ cur e' (0, 0) hb, Nat.zero_add]
                      exact hcur j y hj)
                  ⟨(ρ a.block).blk, (ρ a.block).off + a.off, none⟩ m ((ρ a.block).cap - c) (l.map (mapS ρ)) (by simp [l1, hs1]) l2 (by omega) (by omega) (growslice_fits (by omega) (by rw [hb1]; exact c6))
                have hge := grownCap_ge w (n + m) (ρ b.block).cap e'
                have kl := adv_kill h b.block
                have ps := adv_push (w' := w.drew.alloc (.cells ((r.cells.map (mapS ρ)).toArray ++ (l.map (mapS ρ)).toArray ++ Builtin.zeroCells te.zero.cells (grownCap w (n + m) (ρ b.block).cap e' - (n + m))) e')) kl.rep ⟨r.cells ++ l, e', false, true⟩ _ (grownCap w (n + m) (ρ b.block).cap e') rfl rfl rfl rfl
                  (by
                    intro j u hu
                    have hlt := lt_of_some hu
                    rw [Array.getElem?_append_left (by simpa using hlt)]
                    have : ((r.cells.map (mapS ρ)).toArray ++ (l.map (mapS ρ)).toArray) = ((r.cells ++ l).map (mapS ρ)).toArray := by simp
                    rw [this, List.getElem?_toArray, List.getElem?_map, hu]
                    rfl)
                  (by rw [List.length_set]; exact hcl2) hsc2
                  (fun _ => ⟨grownCap_le_maxLen w (n + m) _ e' (by simp only [maxLen]; omega), by
                    simp only [Array.size_append, List.size_toArray, List.length_map, size_zeroCells, hzs, l1, c5, cellsOf_ti hte]
                    rw [← Nat.add_mul, ← Nat.add_mul]
                    congr 1
                    omega⟩) (fun h => by cases h)
                have both := kl.trans ps
                rw [List.length_set] at both
                refine ⟨_, _, ?_, both, by simp [idsV, idsA, idsS, idsP]⟩
                rw [hms, hmx, hrun]
                congr 1
                simp [mapV, mpV, mpA, mpS, mpP, toReal, updR_eq]
            · cases ho
          · cases ho
        · cases ho
      · cases ho
    · cases ho
  · cases ho

end Go.Am
