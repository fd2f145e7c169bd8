/- The frame of all our walks, part 4: the operations, in the abstract, and that the machine does so. No condition. -/
import Derived.Test.YtbheeobnghlckaaAm3
set_option linter.unusedVariables false
set_option linter.unusedSimpArgs false
namespace Go.Am
open Go.RowKit

def OS (P : Program) (ρ : Ren) (H : Heap) (w : World) (x : Sem Value) (v : Value) (H' : Heap) : Prop :=
  ∃ ρ' w', x.run P w = .ok (mapV ρ' v) w' ∧ Adv P ρ H w ρ' H' w' ∧ ∀ i ∈ idsV v, i < H'.length

theorem OS.pure {P : Program} {ρ : Ren} {H : Heap} {w : World} {x : Sem Value} {v : Value} (h : Rep P ρ H w) (hx : x.run P w = .ok (mapV ρ v) w) (hc : ∀ i ∈ idsV v, i < H.length) : OS P ρ H w x v H :=
  ⟨ρ, w, hx, Adv.refl h, hc⟩

def row? (H : Heap) (i : Nat) : Option Row :=
  match H[i]? with
  | some (some r) => some r
  | _ => none
theorem row?_some {H : Heap} {i : Nat} {r : Row} (h : row? H i = some r) : H[i]? = some (some r) := by
  unfold row? at h
  split at h
  · simp only [Option.some.injEq] at h; subst h; assumption
  · cases h

theorem cell_at {P : Program} {ρ : Ren} {w : World} {l : Loc} {r : Row} (h : RepRow P ρ w l r) {j : Nat} {v : Value} (hv : r.cells[j]? = some v) : w.cell? ⟨l.blk, l.off + j, none⟩ = some (mapS ρ v) := by
  obtain ⟨cur, e, fz, hb, hc, _⟩ := h.at_
  rw [cell_of_row w l.blk _ cur e fz hb]
  exact hc j v hv

/-! ### new variables -/
def opBox (P : Program) (H : Heap) (t : TypeId) (x : Value) : Option (Value × Heap) :=
  if x.cells.toList.all scal then some (.pointer (some ⟨H.length, 0, none⟩), H ++ [some ⟨x.cells.toList, t, true, true⟩]) else none

theorem all_list {a : Array Value} {p : Value → Bool} (h : a.toList.all p = true) : a.all p = true := by
  rwa [Array.all_toList] at h

theorem opBox_sound {P : Program} {ρ : Ren} {H : Heap} {w : World} {t : TypeId} {x v : Value} {H' : Heap} (h : Rep P ρ H w) (hx : ∀ i ∈ idsV x, i < H.length) (ho : opBox P H t x = some (v, H')) :
    OS P ρ H w (Instr.box t (mapV ρ x)) v H' := by
  unfold opBox at ho
  split at ho
  · rename_i hs
    simp only [Option.some.injEq, Prod.mk.injEq] at ho
    obtain ⟨rfl, rfl⟩ := ho
    have hcm := cells_mapV (m := toReal ρ) (all_list hs)
    refine ⟨_, { w with heap := w.heap.push (.cells (mapV ρ x).cells t) }, ?_, adv_push h ⟨x.cells.toList, t, true, true⟩ (mapV ρ x).cells (boxCap P t) rfl rfl rfl rfl ?_ ?_ ?_ (fun h => by cases h) (fun _ => rfl), ?_⟩
    · simp [Instr.box, newVar, newRow, mapV, mpV, mpA, mpS, mpP, toReal, updR_eq]
    · intro j u hu
      rw [mapV, hcm]
      simpa using ⟨u, by simpa using hu, rfl⟩
    · intro u hu k hk
      exact hx k (ids_cells (all_list hs) u hu k hk)
    · intro u hu
      simp only [List.all_eq_true] at hs
      exact hs u hu
    · simp [idsV, idsA, idsS, idsP]
  · cases ho

def opAlloc (P : Program) (H : Heap) (t : TypeId) : Option (Value × Heap) :=
  match tiOf P t with
  | some ti => if ti.zero.cells.toList.all flat then some (.pointer (some ⟨H.length, 0, none⟩), H ++ [some ⟨ti.zero.cells.toList, t, true, true⟩]) else none
  | none => none

theorem opAlloc_sound {P : Program} {ρ : Ren} {H : Heap} {w : World} {t : TypeId} {v : Value} {H' : Heap} (h : Rep P ρ H w) (ho : opAlloc P H t = some (v, H')) :
    OS P ρ H w (Instr.alloc t true (.tuple #[])) v H' := by
  unfold opAlloc at ho
  split at ho
  · rename_i ti hti
    split at ho
    · rename_i hs
      simp only [Option.some.injEq, Prod.mk.injEq] at ho
      obtain ⟨rfl, rfl⟩ := ho
      have hf : ∀ u ∈ ti.zero.cells.toList, flat u = true := fun u hu => by rw [List.all_eq_true] at hs; exact hs u hu
      refine ⟨_, { w with heap := w.heap.push (.cells ti.zero.cells t) }, ?_, adv_push h ⟨ti.zero.cells.toList, t, true, true⟩ ti.zero.cells (boxCap P t) rfl rfl rfl rfl ?_ ?_ ?_ (fun h => by cases h) (fun _ => rfl), ?_⟩
      · simp [Instr.alloc, newVar, newRow, run_zero w hti, mapV, mpV, mpA, mpS, mpP, toReal, updR_eq]
      · intro j u hu
        rw [mapS, mpS_flat (hf u (List.mem_of_getElem? hu))]
        simpa using hu
      · intro u hu k hk
        rw [idsS_flat (hf u hu)] at hk
        cases hk
      · intro u hu
        exact scal_flat (hf u hu)
      · simp [idsV, idsA, idsS, idsP]
    · cases ho
  · cases ho

/-! ### load, store -/
def opLoad (P : Program) (H : Heap) (t : TypeId) (x : Value) : Option Value :=
  match x with
  | .pointer (some a) => match row? H a.block, tiOf P t with
    | some r, some ti =>
      if ti.kd.isAgg then (if a.off + ti.size ≤ r.cells.length then some (.agg ((r.cells.drop a.off).take ti.size).toArray) else none)
      else r.cells[a.off]?
    | _, _ => none
  | _ => none

theorem opLoad_run {P : Program} {ρ : Ren} {H : Heap} {w : World} {t : TypeId} {x v : Value} (h : Rep P ρ H w) (ho : opLoad P H t x = some v) :
    (∃ a, x = .pointer (some a) ∧ (loadVar t ⟨(ρ a.block).blk, (ρ a.block).off + a.off, none⟩).run P w = .ok (mapV ρ v) w) ∧ (∀ i ∈ idsV v, i < H.length) ∧ ∀ vs, v ≠ .tuple vs := by
  unfold opLoad at ho
  split at ho
  · rename_i a
    split at ho
    · rename_i r ti hr hti
      have hr' := row?_some hr
      have hrow := h.row _ _ hr'
      have hcl := h.cl _ _ hr'
      have haddr : mapV ρ (.pointer (some a)) = .pointer (some ⟨(ρ a.block).blk, (ρ a.block).off + a.off, none⟩) := by simp [mapV, mpV, mpA, mpS, mpP, toReal]
      split at ho
      · rename_i hagg
        split at ho
        · rename_i hle
          simp only [Option.some.injEq] at ho
          subst ho
          have hload := run_loadCells_list (P := P) w ⟨(ρ a.block).blk, (ρ a.block).off + a.off, none⟩ (((r.cells.drop a.off).take ti.size).map (mapS ρ)) (fun j u hu => by
            rw [List.getElem?_map] at hu
            cases hj : ((r.cells.drop a.off).take ti.size)[j]? with
            | none => rw [hj] at hu; cases hu
            | some y =>
              rw [hj] at hu
              simp only [Option.map_some, Option.some.injEq] at hu
              subst hu
              have hy : r.cells[a.off + j]? = some y := by
                rw [List.getElem?_take] at hj
                split at hj
                · simpa using hj
                · cases hj
              rw [Addr.add_lit, Nat.add_assoc]
              exact cell_at hrow hy)
          have hl : (((r.cells.drop a.off).take ti.size).map (mapS ρ)).length = ti.size := by simp; omega
          rw [hl] at hload
          refine ⟨⟨a, rfl, ?_⟩, ?_, fun vs h => by cases h⟩
          · simp [loadVar, run_isAgg w hti, hagg, run_size w hti, hload, mapV, mpV, mpA]
          · intro i hi
            simp only [idsV, idsA, List.mem_flatMap] at hi
            obtain ⟨u, hu, hi⟩ := hi
            exact hcl u (List.mem_of_mem_drop (List.mem_of_mem_take (by simpa using hu))) i hi
        · cases ho
      · rename_i hagg
        have hsc := hrow.scal v (List.mem_of_getElem? ho)
        refine ⟨⟨a, rfl, ?_⟩, ?_, fun vs h => by rw [h] at hsc; cases hsc⟩
        · simp only [loadVar, Sem.run_bind, Sem.run_pure, Result.andThen_ok, run_isAgg w hti, hagg, Bool.false_eq_true, if_false]
          rw [run_load, cell_at hrow ho, mapV, mapV_scal hsc]
        · rw [idsV_scal hsc]
          exact hcl v (List.mem_of_getElem? ho)
    · cases ho
  · cases ho

theorem opLoad_sound {P : Program} {ρ : Ren} {H : Heap} {w : World} {t : TypeId} {x v : Value} (h : Rep P ρ H w) (ho : opLoad P H t x = some v) :
    OS P ρ H w (Instr.loadAt t (mapV ρ x)) v H := by
  obtain ⟨⟨a, rfl, hrun⟩, hc, _⟩ := opLoad_run h ho
  refine OS.pure h ?_ hc
  have haddr : mapV ρ (.pointer (some a)) = .pointer (some ⟨(ρ a.block).blk, (ρ a.block).off + a.off, none⟩) := by simp [mapV, mpV, mpA, mpS, mpP, toReal]
  rw [haddr]
  simp [Instr.loadAt, Instr.sureAddr, hrun]

def splice (l : List Value) (o : Nat) (x : List Value) : List Value := l.take o ++ x ++ l.drop (o + x.length)

theorem splice_map {f : Value → Value} {A B X : List Value} {o : Nat} (hle : o + X.length ≤ A.length) (h : ∀ (j : Nat) (v : Value), A[j]? = some v → B[j]? = some (f v)) :
    ∀ (j : Nat) (v : Value), (splice A o X)[j]? = some v → (splice B o (X.map f))[j]? = some (f v) := by
  have hAB : A.length ≤ B.length := by
    rcases Nat.lt_or_ge B.length A.length with hgt | hge
    · have := h B.length _ (List.getElem?_eq_getElem hgt)
      simp at this
    · exact hge
  intro j v hv
  unfold splice at hv ⊢
  rcases Nat.lt_or_ge j o with hj | hj
  · rw [List.append_assoc, List.getElem?_append_left (by simp; omega), List.getElem?_take_of_lt hj] at hv
    rw [List.append_assoc, List.getElem?_append_left (by simp; omega), List.getElem?_take_of_lt hj]
    exact h j v hv
  · rw [List.append_assoc, List.getElem?_append_right (by simp; omega)] at hv
    rw [List.append_assoc, List.getElem?_append_right (by simp; omega)]
    have e1 : (A.take o).length = o := by simp; omega
    have e2 : (B.take o).length = o := by simp; omega
    rw [e1] at hv
    rw [e2]
    rcases Nat.lt_or_ge (j - o) X.length with hk | hk
    · rw [List.getElem?_append_left hk] at hv
      rw [List.getElem?_append_left (by simpa using hk), List.getElem?_map, hv]
      rfl
    · rw [List.getElem?_append_right hk, List.getElem?_drop] at hv
      rw [List.getElem?_append_right (by simpa using hk), List.getElem?_drop, List.length_map]
      exact h _ v hv

theorem mem_splice {l x : List Value} {o : Nat} {v : Value} (h : v ∈ splice l o x) : v ∈ l ∨ v ∈ x := by
  unfold splice at h
  rcases List.mem_append.1 h with h | h
  · rcases List.mem_append.1 h with h | h
    · exact Or.inl (List.mem_of_mem_take h)
    · exact Or.inr h
  · exact Or.inl (List.mem_of_mem_drop h)

def opStore (P : Program) (H : Heap) (t : TypeId) (x v : Value) : Option Heap :=
  match x with
  | .pointer (some a) => match row? H a.block, tiOf P t with
    | some r, some ti =>
      if r.wr = true ∧ v.cells.toList.length = ti.size ∧ a.off + ti.size ≤ r.cells.length ∧ v.cells.toList.all scal = true then
        some (H.set a.block (some { r with cells := splice r.cells a.off v.cells.toList }))
      else none
    | _, _ => none
  | _ => none

theorem opStore_sound {P : Program} {ρ : Ren} {H : Heap} {w : World} {t : TypeId} {x v : Value} {H' : Heap} (h : Rep P ρ H w) (hv : ∀ i ∈ idsV v, i < H.length) (ho : opStore P H t x v = some H') :
    ∃ w', (Instr.storeAt t (mapV ρ x) (mapV ρ v)).run P w = .ok () w' ∧ Adv P ρ H w ρ H' w' := by
  unfold opStore at ho
  split at ho
  · rename_i a
    split at ho
    · rename_i r ti hr hti
      split at ho
      · rename_i hc
        obtain ⟨hw, hsz, hle, hs⟩ := hc
        simp only [Option.some.injEq] at ho
        subst ho
        have hr' := row?_some hr
        have hrow := h.row _ _ hr'
        obtain ⟨⟨cur, e, fz, hb, hcu, hwr, hlen⟩, hsc⟩ := hrow
        obtain ⟨h0, he, hf, _⟩ := hwr hw
        subst hf
        have hcm := cells_mapV (m := toReal ρ) (all_list hs)
        have haddr : mapV ρ (.pointer (some a)) = .pointer (some ⟨(ρ a.block).blk, a.off, none⟩) := by simp [mapV, mpV, mpA, mpS, mpP, toReal, h0]
        have hcur : r.cells.length ≤ cur.size := by
          rcases Nat.lt_or_ge cur.size r.cells.length with hgt | hge
          · have := hcu cur.size _ (List.getElem?_eq_getElem hgt)
            rw [h0] at this
            simp at this
          · exact hge
        have hmc : (mapV ρ v).cells.toList = v.cells.toList.map (mapS ρ) := by rw [mapV, hcm]; simp
        have hone : ∀ u ∈ v.cells.toList.map (mapS ρ), u.oneCell' = true := by
          intro u hu
          obtain ⟨y, hy, rfl⟩ := List.mem_map.1 hu
          simp only [List.all_eq_true] at hs
          exact oneCell_of_scal (by rw [mapS, scal_mpS]; exact hs y hy)
        have hrun := run_storeCells_at P (ρ a.block).blk a.off e (v.cells.toList.map (mapS ρ)) 0 cur w hb (by simp; simp at hsz; omega) hone
        simp only [Nat.add_zero] at hrun
        have hspl : (cur.toList.take a.off ++ v.cells.toList.map (mapS ρ) ++ cur.toList.drop (a.off + (v.cells.toList.map (mapS ρ)).length)) = splice cur.toList a.off (v.cells.toList.map (mapS ρ)) := rfl
        rw [hspl] at hrun
        refine ⟨_, ?_, adv_store h a.block r hr' hw (splice r.cells a.off v.cells.toList) (splice cur.toList a.off (v.cells.toList.map (mapS ρ))).toArray ?_ ?_ ?_ ?_⟩
        · rw [haddr]
          have hsz' : (mapV ρ v).cells.size = ti.size := by
            rw [← hsz, ← Array.length_toList, hmc, List.length_map]
          simp only [Instr.storeAt, Instr.sureAddr, storeVar, Sem.run_bind, Sem.run_pure, Result.andThen_ok, run_size w hti, hsz', ne_eq, not_true, if_false, hmc, hrun]
        · intro cur' e' fz' hb'
          rw [hb] at hb'
          simp only [Option.some.injEq, Obj.cells.injEq] at hb'
          obtain ⟨rfl, _, _⟩ := hb'
          simp [splice]
          simp at hsz
          omega
        · intro j u hu
          have := splice_map (f := mapS ρ) (A := r.cells) (B := cur.toList) (X := v.cells.toList) (o := a.off) (by omega) (fun j v hv => by have := hcu j v hv; rw [h0] at this; simpa using this) j u hu
          simpa using this
        · intro u hu k hk
          rcases mem_splice hu with hu | hu
          · exact h.cl _ _ hr' u hu k hk
          · exact hv k (ids_cells (all_list hs) u hu k hk)
        · intro u hu
          rcases mem_splice hu with hu | hu
          · exact hsc u hu
          · simp only [List.all_eq_true] at hs; exact hs u hu
      · cases ho
    · cases ho
  · cases ho

/-! ### addresses -/
def opIdxAddr (P : Program) (t : TypeId) (x i : Value) : Option Value :=
  match i with
  | .int _ n => match x, tiOf P t with
    | .pointer (some a), some ⟨.array len e, _, _, _⟩ => match tiOf P e with
      | some te => if 0 ≤ n ∧ n < (len : Int) then some (.pointer (some ⟨a.block, a.off + n.toNat * te.size, none⟩)) else none
      | none => none
    | .slice (some a) len _, some ⟨.slice e, _, _, _⟩ => match tiOf P e with
      | some te => if 0 ≤ n ∧ n < (len : Int) then some (.pointer (some ⟨a.block, a.off + n.toNat * te.size, none⟩)) else none
      | none => none
    | _, _ => none
  | _ => none

theorem opIdxAddr_sound {P : Program} {ρ : Ren} {t : TypeId} {x i v : Value} {n : Nat} (hx : ∀ k ∈ idsV x, k < n) (ho : opIdxAddr P t x i = some v) (w : World) :
    (Instr.indexAt t (mapV ρ x) (mapV ρ i)).run P w = .ok (mapV ρ v) w ∧ ∀ k ∈ idsV v, k < n := by
  unfold opIdxAddr at ho
  split at ho
  · rename_i k m
    split at ho
    · rename_i a len e _ _ _ hti
      obtain ⟨i0, d, hi0, hd, hz, hs, _, hk⟩ := tiOf_spec hti
      have hd' := tk_array hk
      subst hd'
      split at ho
      · rename_i te hte
        split at ho
        · rename_i hr
          simp only [Option.some.injEq] at ho
          subst ho
          refine ⟨?_, by simpa [idsV, idsA, idsS, idsP] using hx⟩
          simp [Instr.indexAt, asIntOf, run_underlying hd, Instr.sureAddr, mapV, mpV, mpA, mpS, mpP, toReal, hr.1, hr.2, run_size w hte, Addr.add_lit, Nat.add_assoc]
        · cases ho
      · cases ho
    · rename_i a len _ e _ _ _ hti
      obtain ⟨i0, d, hi0, hd, hz, hs, _, hk⟩ := tiOf_spec hti
      have hd' := tk_slice hk
      subst hd'
      split at ho
      · rename_i te hte
        split at ho
        · rename_i hr
          simp only [Option.some.injEq] at ho
          subst ho
          refine ⟨?_, by simpa [idsV, idsA, idsS, idsP] using hx⟩
          simp [Instr.indexAt, asIntOf, run_underlying hd, Instr.sureAddr, mapV, mpV, mpA, mpS, mpP, toReal, hr.1, hr.2, run_size w hte, Addr.add_lit, Nat.add_assoc]
        · cases ho
      · cases ho
    · cases ho
  · cases ho

def opFldAddr (P : Program) (t : TypeId) (x : Value) (f : Nat) : Option Value :=
  match x, tiOf P t with
  | .pointer (some a), some ⟨.struct fs, _, _, _⟩ => match fs[f]? with
    | some (off, ft) => match tiOf P ft with
      | some tf => if tf.size = 0 then none else some (.pointer (some ⟨a.block, a.off + off, none⟩))
      | none => none
    | none => none
  | _, _ => none

theorem opFldAddr_sound {P : Program} {ρ : Ren} {t : TypeId} {x v : Value} {f n : Nat} (hx : ∀ k ∈ idsV x, k < n) (ho : opFldAddr P t x f = some v) (w : World) :
    (Instr.fieldAt t (mapV ρ x) f).run P w = .ok (mapV ρ v) w ∧ ∀ k ∈ idsV v, k < n := by
  unfold opFldAddr at ho
  split at ho
  · rename_i a fs _ _ _ hti
    obtain ⟨i0, d, hi0, hd, hz, hs, _, hk⟩ := tiOf_spec hti
    obtain ⟨gs, rfl, rfl⟩ := tk_struct hk
    split at ho
    · rename_i off ft hf
      split at ho
      · rename_i tf htf
        split at ho
        · cases ho
        · rename_i h0
          simp only [Option.some.injEq] at ho
          subst ho
          refine ⟨?_, by simpa [idsV, idsA, idsS, idsP] using hx⟩
          rw [List.getElem?_map] at hf
          cases hg : gs[f]? with
          | none =>
            rw [Array.getElem?_toList, hg] at hf
            cases hf
          | some g =>
            rw [Array.getElem?_toList, hg] at hf
            simp only [Option.map_some, Option.some.injEq, Prod.mk.injEq] at hf
            obtain ⟨rfl, rfl⟩ := hf
            simp [Instr.fieldAt, run_underlying hd, hg, Instr.sureAddr, mapV, mpV, mpA, mpS, mpP, toReal, fieldPlace, run_size w htf, h0, Addr.add_lit, Nat.add_assoc]
      · cases ho
    · cases ho
  · cases ho

end Go.Am
