/- The frame of all our walks, part 5: further operations: what is reckoned, built, cut, made, appended. No condition. -/
import Derived.Test.YtbheeobnghlckaaAm4
set_option linter.unusedVariables false
set_option linter.unusedSimpArgs false
namespace Go.Am
open Go.RowKit

theorem mapV_agg {m : Mp} {cs : Array Value} : mpV m (.agg cs) = .agg (cs.map (mpS m)) := rfl

theorem eqCells_flat : ∀ {x y : List Value} {b : Bool}, eqCells x y = some b → (∀ v ∈ x, flat v = true) ∧ ∀ v ∈ y, flat v = true
  | [], [], _, _ => ⟨(fun _ h => by cases h), (fun _ h => by cases h)⟩
  | [], _ :: _, _, h => by simp [eqCells] at h
  | x :: _, [], _, h => by cases x <;> simp [eqCells] at h
  | u :: x, v :: y, _, h => by
    cases u <;> cases v <;> first
      | (simp [eqCells] at h; done)
      | skip
    simp only [eqCells] at h
    split at h
    · cases he : eqCells x y with
      | none => rw [he] at h; cases h
      | some r =>
        have := eqCells_flat he
        refine ⟨fun v hv => ?_, fun v hv => ?_⟩
        · rcases List.mem_cons.1 hv with rfl | hv
          · rfl
          · exact this.1 v hv
        · rcases List.mem_cons.1 hv with rfl | hv
          · rfl
          · exact this.2 v hv
    · cases h

theorem map_flat {m : Mp} {a : Array Value} (h : ∀ v ∈ a.toList, flat v = true) : a.map (mpS m) = a := by
  apply Array.ext'
  rw [Array.toList_map]
  conv => rhs; rw [← List.map_id a.toList]
  exact List.map_congr_left fun v hv => mpS_flat (h v hv)

theorem FlatTy.under {P : Program} {d : Nat} {t : TypeId} {n : Nat} (h : FlatTy P d t n) : (∃ n e, P.underlying t = some (.array n e)) ∨ (∃ fs, P.underlying t = some (.struct fs)) ∨ ∃ k, P.underlying t = some (.int k) := by
  cases h with
  | int hk => exact Or.inr (Or.inr ⟨_, hk⟩)
  | array hk _ _ => exact Or.inl ⟨_, _, hk⟩
  | struct hk _ _ _ _ _ => exact Or.inr (Or.inl ⟨_, hk⟩)

theorem evBin_sound {P : Program} {C : Ctx P} {ρ : Ren} {op : BinOp} {t : TypeId} {x y v : Value} (h : evBin C op t x y = some v) (ox oy : Operand) (w : World) :
    ((do eqGuard op t ox oy (mapV ρ x) (mapV ρ y); binOp op t (mapV ρ x) (mapV ρ y)) : Sem Value).run P w = .ok (mapV ρ v) w ∧ flat v = true := by
  have intv : ∀ {op k a b v}, evInt op k a b = some v → flat v = true := by
    intro op k a b v h
    unfold evInt at h
    split at h <;> (try (split at h)) <;> first
      | (simp only [Option.some.injEq] at h; subst h; rfl)
      | cases h
  have strv : ∀ {op a b v}, evStr op a b = some v → flat v = true := by
    intro op a b v h
    unfold evStr at h
    split at h <;> (try (split at h)) <;> first
      | (simp only [Option.some.injEq] at h; subst h; rfl)
      | cases h
  unfold evBin at h
  split at h
  · rename_i k a k' b
    have hg : (eqGuard op t ox oy (.int k a) (.int k' b)).run P w = .ok () w := by cases op <;> simp [eqGuard]
    have hm : ∀ k a, mapV ρ (.int k a) = .int k a := fun _ _ => rfl
    rw [hm, hm]
    simp only [Sem.run_bind, hg, Result.andThen_ok]
    split at h
    · split at h
      · cases h
      · rename_i hb
        simp only [Option.some.injEq] at h
        subst h
        exact ⟨by simp [binOp, Op.shift, hb, mapV, mpV, mpA, mpS, mpP], rfl⟩
    · split at h
      · cases h
      · rename_i hb
        simp only [Option.some.injEq] at h
        subst h
        exact ⟨by simp [binOp, Op.shift, hb, mapV, mpV, mpA, mpS, mpP], rfl⟩
    · split at h
      · rename_i hk
        subst hk
        have hf := intv h
        rw [mapV, mpV_flat hf]
        exact ⟨evInt_sound h t w, hf⟩
      · cases h
  · rename_i a b
    have hg : (eqGuard op t ox oy (.string a) (.string b)).run P w = .ok () w := by cases op <;> simp [eqGuard]
    have hm : ∀ a, mapV ρ (.string a) = .string a := fun _ => rfl
    rw [hm, hm]
    simp only [Sem.run_bind, hg, Result.andThen_ok]
    have hf := strv h
    rw [mapV, mpV_flat hf]
    exact ⟨evStr_sound h t w, hf⟩
  · rename_i a b
    have hg : (eqGuard op t ox oy (.bool a) (.bool b)).run P w = .ok () w := by cases op <;> simp [eqGuard]
    have hm : ∀ a, mapV ρ (.bool a) = .bool a := fun _ => rfl
    rw [hm, hm]
    simp only [Sem.run_bind, hg, Result.andThen_ok]
    split at h
    · rename_i hbt
      have hd : P.underlying t = some .bool := by
        unfold isBoolTy at hbt
        split at hbt
        · assumption
        · cases hbt
      split at h
      · simp only [Option.some.injEq] at h
        subst h
        refine ⟨?_, rfl⟩
        simp [binOp, Op.equal, Op.maxDepth, run_equalIn_bool' w 9999 t a b hd, mapV, mpV, mpA, mpS, mpP]
      · simp only [Option.some.injEq] at h
        subst h
        refine ⟨?_, rfl⟩
        simp [binOp, Op.equal, Op.maxDepth, run_equalIn_bool' w 9999 t a b hd, mapV, mpV, mpA, mpS, mpP]
      · cases h
    · cases h
  · rename_i xs ys
    split at h
    · rename_i ht
      obtain ⟨hflat, hguard, hnoint⟩ := C.flatOK t _ ht
      have hu := hflat.under
      have key : ∀ b, eqCells xs.toList ys.toList = some b → (eqGuard op t ox oy (mapV ρ (.agg xs)) (mapV ρ (.agg ys))).run P w = .ok () w ∧ mapV ρ (.agg xs) = .agg xs ∧ mapV ρ (.agg ys) = .agg ys ∧
          ((∀ k, P.underlying t ≠ some (.int k)) → (Op.equalIn 10000 t (.agg xs) (.agg ys)).run P w = .ok b w) := by
        intro b hb
        obtain ⟨fx, fy⟩ := eqCells_flat hb
        rw [mapV, mapV_agg, mapV_agg, map_flat fx, map_flat fy]
        refine ⟨run_eqGuard_agg w op t ox oy xs ys hguard, rfl, rfl, fun hni => ?_⟩
        have hu' : (∃ n e, P.underlying t = some (.array n e)) ∨ (∃ fs, P.underlying t = some (.struct fs)) := by
          rcases hu with h | h | ⟨k, h⟩
          · exact Or.inl h
          · exact Or.inr h
          · exact absurd h (hni k)
        exact flat_eq 9 t _ hflat xs.toList ys.toList _ _ b rfl hb (Or.inr ⟨hu', by simp⟩) (Or.inr ⟨hu', by simp⟩) 10000 (by omega) w
      have hni : (∃ b, eqCells xs.toList ys.toList = some b) → ∀ k, P.underlying t ≠ some (.int k) := fun _ => hnoint
      split at h
      · cases hb : eqCells xs.toList ys.toList with
        | none => rw [hb] at h; cases h
        | some b =>
          rw [hb] at h
          simp only [Option.map_some, Option.some.injEq] at h
          subst h
          obtain ⟨k1, k2, k3, k4⟩ := key b hb
          refine ⟨?_, rfl⟩
          simp only [Sem.run_bind, k1, Result.andThen_ok]
          rw [k2, k3, run_eql_struct, k4 (hni ⟨b, hb⟩)]
          rfl
      · cases hb : eqCells xs.toList ys.toList with
        | none => rw [hb] at h; cases h
        | some b =>
          rw [hb] at h
          simp only [Option.map_some, Option.some.injEq] at h
          subst h
          obtain ⟨k1, k2, k3, k4⟩ := key b hb
          refine ⟨?_, rfl⟩
          simp only [Sem.run_bind, k1, Result.andThen_ok]
          rw [k2, k3, run_neq_struct, k4 (hni ⟨b, hb⟩)]
          rfl
      · cases h
    · cases h
  · cases h

/-! ### built values -/
theorem zipIdx_foldl (f : Value → Value) (off : Nat) : ∀ (l : List (Value × Nat)) (cs : Array Value),
    (l.map fun p => (f p.1, p.2)).foldl (fun cs (x : Value × Nat) => cs.setIfInBounds (off + x.2) x.1) (cs.map f) = (l.foldl (fun cs (x : Value × Nat) => cs.setIfInBounds (off + x.2) x.1) cs).map f
  | [], cs => rfl
  | p :: l, cs => by
    simp only [List.map_cons, List.foldl_cons]
    rw [← zipIdx_foldl f off l]
    congr 1
    simp

theorem size_foldl (off : Nat) : ∀ (l : List (Value × Nat)) (cs : Array Value), (l.foldl (fun cs (x : Value × Nat) => cs.setIfInBounds (off + x.2) x.1) cs).size = cs.size
  | [], _ => rfl
  | p :: l, cs => by simp only [List.foldl_cons]; rw [size_foldl off l]; simp

/-- parts put into their places -/
def fillA (place : Nat → Option (Nat × Nat)) (cells : List Value) : List (Nat × Value) → Option (List Value)
  | [] => some cells
  | (i, v) :: rest =>
    match place i with
    | none => none
    | some (off, size) => if v.cells.toList.length = size ∧ v.cells.toList.all scal = true ∧ off + v.cells.toList.length ≤ cells.length then fillA place (splice cells off v.cells.toList) rest else none

theorem foldl_splice (off : Nat) : ∀ (x : List Value) (j : Nat) (cs : Array Value), off + j + x.length ≤ cs.size →
    (x.zipIdx j).foldl (fun cs (y : Value × Nat) => cs.setIfInBounds (off + y.2) y.1) cs = (splice cs.toList (off + j) x).toArray
  | [], j, cs, h => by simp [splice]
  | v :: x, j, cs, h => by
    simp only [List.zipIdx_cons, List.foldl_cons]
    rw [foldl_splice off x (j + 1) _ (by simp at h ⊢; omega)]
    congr 1
    unfold splice
    simp only [List.length_cons] at h
    apply List.ext_getElem?
    intro k
    simp only [Array.toList_setIfInBounds]
    rcases Nat.lt_or_ge k (off + j) with hk | hk
    · rw [List.append_assoc, List.append_assoc, List.getElem?_append_left (by simp; omega), List.getElem?_append_left (by simp; omega), List.getElem?_take_of_lt (by omega), List.getElem?_take_of_lt hk, List.getElem?_set_ne (by omega)]
    · rw [List.append_assoc, List.append_assoc, List.getElem?_append_right (l₁ := cs.toList.take (off + j)) (by simp; omega)]
      have e2 : (cs.toList.take (off + j)).length = off + j := by simp; omega
      rw [e2]
      rcases Nat.eq_or_lt_of_le hk with rfl | hk
      · rw [List.getElem?_append_left (by simp; omega), List.getElem?_take_of_lt (by omega), List.getElem?_set_self (by simp; omega)]
        simp
      · have e3 : ((cs.toList.set (off + j) v).take (off + (j + 1))).length = off + j + 1 := by simp; omega
        rw [List.getElem?_append_right (by rw [e3]; omega), e3]
        obtain ⟨m, rfl⟩ : ∃ m, k = off + j + 1 + m := ⟨k - (off + j + 1), by omega⟩
        have a1 : off + j + 1 + m - (off + j + 1) = m := by omega
        have a2 : off + j + 1 + m - (off + j) = m + 1 := by omega
        rw [a1, a2, List.cons_append, List.getElem?_cons_succ]
        rcases Nat.lt_or_ge m x.length with hm | hm
        · rw [List.getElem?_append_left hm, List.getElem?_append_left hm]
        · rw [List.getElem?_append_right hm, List.getElem?_append_right hm, List.getElem?_drop, List.getElem?_drop, List.getElem?_set_ne (by omega)]
          congr 1
          simp only [List.length_cons]
          omega

theorem length_splice {l x : List Value} {o : Nat} (h : o + x.length ≤ l.length) : (splice l o x).length = l.length := by
  simp [splice]; omega

theorem splice_maps {f : Value → Value} {A X : List Value} {o : Nat} (hle : o + X.length ≤ A.length) : splice (A.map f) o (X.map f) = (splice A o X).map f := by
  simp [splice, List.map_take, List.map_drop]

theorem fillA_sound (m : Mp) (place : Nat → Option (Nat × Nat)) : ∀ (parts : List (Nat × Value)) (cells out : List Value), fillA place cells parts = some out →
    Instr.fill place (cells.map (mpS m)).toArray (parts.map fun p => (p.1, mpV m p.2)) = some (out.map (mpS m)).toArray ∧ ∀ v ∈ out, v ∈ cells ∨ ∃ p ∈ parts, v ∈ p.2.cells.toList ∧ p.2.cells.toList.all scal = true
  | [], cells, out, h => by
    simp only [fillA, Option.some.injEq] at h
    subst h
    exact ⟨rfl, fun v hv => Or.inl hv⟩
  | (i, v) :: rest, cells, out, h => by
    simp only [fillA] at h
    cases hp : place i with
    | none => rw [hp] at h; cases h
    | some os =>
      obtain ⟨off, size⟩ := os
      rw [hp] at h
      simp only at h
      split at h
      · rename_i hc
        obtain ⟨h1, h2, h3⟩ := hc
        have hcm := cells_mapV (m := m) (all_list h2)
        have hcl : (mpV m v).cells.toList = v.cells.toList.map (mpS m) := by rw [hcm]; simp
        have hsz : (mpV m v).cells.size = size := by rw [← Array.length_toList, hcl, List.length_map, h1]
        obtain ⟨ih1, ih2⟩ := fillA_sound m place rest _ out h
        refine ⟨?_, fun u hu => ?_⟩
        · simp only [List.map_cons, Instr.fill, hp]
          have hz : ¬ ((mpV m v).cells.size ≠ size ∨ off + (mpV m v).cells.size > (cells.map (mpS m)).toArray.size) := by
            rw [hsz]; simp; omega
          have hzb : ((decide ((mpV m v).cells.size ≠ size)) || decide (off + (mpV m v).cells.size > (cells.map (mpS m)).toArray.size)) = false := by
            rw [hsz]; simp; omega
          rw [if_neg (by rw [hzb]; simp)]
          rw [← ih1]
          congr 1
          have := foldl_splice off (v.cells.toList.map (mpS m)) 0 (cells.map (mpS m)).toArray (by simp at h3 ⊢; omega)
          rw [← splice_maps h3]
          simp only [Nat.add_zero] at this
          rw [← this, ← hcl]
          rw [← Array.foldl_toList, Array.toList_zipIdx]
        · rcases ih2 u hu with h | ⟨p, hp, h⟩
          · rcases mem_splice h with h | h
            · exact Or.inl h
            · exact Or.inr ⟨(i, v), by simp, h, h2⟩
          · exact Or.inr ⟨p, by simp [hp], h⟩
      · cases h

end Go.Am
