/- The frame of all our walks, part 7: slices made, built, cut, appended to. No condition. -/
import Derived.Test.YtbheeobnghlckaaAm6
set_option linter.unusedVariables false
set_option linter.unusedSimpArgs false
namespace Go.Am
open Go.RowKit

/-- n times the cells of a zero value -/
def reps (n : Nat) (z : List Value) : List Value := (List.replicate n z).flatten

theorem reps_succ (n : Nat) (z : List Value) : reps (n + 1) z = reps n z ++ z := by
  unfold reps
  rw [List.replicate_succ', List.flatten_append]
  simp
theorem length_reps (n : Nat) (z : List Value) : (reps n z).length = n * z.length := by
  induction n with
  | zero => simp [reps]
  | succ n ih => rw [reps_succ, List.length_append, ih, Nat.succ_mul]
theorem mem_reps {n : Nat} {z : List Value} {v : Value} (h : v ∈ reps n z) : v ∈ z := by
  unfold reps at h
  obtain ⟨l, hl, hv⟩ := List.mem_flatten.1 h
  rw [List.eq_of_mem_replicate hl] at hv
  exact hv
theorem made_toList (z : Array Value) (n : Nat) : (madeCells z (n * z.size)).toList = reps n z.toList := by
  unfold madeCells
  rw [Array.toList_map, Array.toList_range]
  induction n with
  | zero => simp [reps]
  | succ n ih =>
    rw [Nat.succ_mul, List.range_add, List.map_append, ih, reps_succ, List.map_map]
    congr 1
    apply List.ext_getElem?
    intro i
    simp only [List.getElem?_map]
    rcases Nat.lt_or_ge i z.size with hi | hi
    · rw [List.getElem?_range hi]
      have : (n * z.size + i) % z.size = i := by rw [Nat.add_comm, Nat.add_mul_mod_self_right]; exact Nat.mod_eq_of_lt hi
      simp [this, hi]
    · rw [List.getElem?_eq_none (by simpa using hi), List.getElem?_eq_none (by simpa using hi)]
      rfl

def opMake (P : Program) (H : Heap) (t : TypeId) (l c : Value) : Option (Value × Heap) :=
  match l, c, tiOf P t with
  | .int _ n, .int _ m, some ⟨.slice e, _, _, _⟩ => match tiOf P e with
    | some te => if n = m ∧ 0 ≤ n ∧ (te.bytes : Int) * n ≤ 140737488355328 ∧ n ≤ 1125899906842624 ∧ te.zero.cells.toList.length = te.size ∧ te.zero.cells.toList.all flat = true then
        some (.slice (some ⟨H.length, 0, none⟩) n.toNat 0, H ++ [some ⟨reps n.toNat te.zero.cells.toList, e, false, true⟩]) else none
    | none => none
  | _, _, _ => none

theorem cellsOf_ti {P : Program} {t : TypeId} {x : TI} (h : tiOf P t = some x) : P.cellsOf t = x.size := by
  obtain ⟨i, d, hi, hd, _, hs, _, hk⟩ := tiOf_spec h
  simp [Program.cellsOf, hi, hs]

theorem opMake_sound {P : Program} {ρ : Ren} {H : Heap} {w : World} {t : TypeId} {l c v : Value} {H' : Heap} (h : Rep P ρ H w) (ho : opMake P H t l c = some (v, H')) :
    OS P ρ H w (Instr.makeSlice t (mapV ρ l) (mapV ρ c)) v H' := by
  unfold opMake at ho
  split at ho
  · rename_i k n k' m e _ _ _ hti
    obtain ⟨i0, d, hi0, hd, hz, hs, _, hk⟩ := tiOf_spec hti
    have hd' := tk_slice hk
    subst hd'
    split at ho
    · rename_i te hte
      obtain ⟨i1, d1, hi1, hd1, hz1, hs1, hb1, hk1⟩ := tiOf_spec hte
      split at ho
      · rename_i hc
        obtain ⟨rfl, h0, hby, h50, hzl, hzf⟩ := hc
        simp only [Option.some.injEq, Prod.mk.injEq] at ho
        obtain ⟨rfl, rfl⟩ := ho
        have hr := run_make (P := P) w t e i1 te.zero hd hi1 hz1 k k' n n h0 (Int.le_refl _) (by rw [hb1]; omega) (by omega)
        have hsz : te.zero.cells.size = te.size := by simpa using hzl
        have hmt : (madeCells te.zero.cells (n.toNat * i1.size)).toList = reps n.toNat te.zero.cells.toList := by rw [hs1, ← hsz, made_toList]
        have hf : ∀ u ∈ reps n.toNat te.zero.cells.toList, flat u = true := fun u hu => (List.all_eq_true.1 hzf) u (mem_reps hu)
        refine ⟨_, w.alloc (.cells (madeCells te.zero.cells (n.toNat * i1.size)) e), ?_, adv_push h ⟨reps n.toNat te.zero.cells.toList, e, false, true⟩ (madeCells te.zero.cells (n.toNat * i1.size)) n.toNat ?_ ?_ ?_ ?_ ?_ ?_ ?_ (fun _ => ⟨?_, ?_⟩) (fun h => by cases h), ?_⟩
        · rw [show mapV ρ (.int k n) = .int k n from rfl, show mapV ρ (.int k' n) = .int k' n from rfl, hr]
          congr 1
          simp [mapV, mpV, mpA, mpS, mpP, toReal, updR_eq]
        · rfl
        · rfl
        · rfl
        · rfl
        · intro j u hu
          rw [mapS, mpS_flat (hf u (List.mem_of_getElem? hu))]
          rw [← Array.getElem?_toList, hmt]
          exact hu
        · intro u hu i hi
          rw [idsS_flat (hf u hu)] at hi; cases hi
        · intro u hu
          exact scal_flat (hf u hu)
        · simp only [maxLen]; omega
        · rw [size_madeCells, cellsOf_ti hte, hs1]
        · simp [idsV, idsA, idsS, idsP]
      · cases ho
    · cases ho
  · cases ho

def opBuildSlice (P : Program) (H : Heap) (t : TypeId) (len : Nat) (parts : List (Nat × Value)) : Option (Value × Heap) :=
  match tiOf P t with
  | some ⟨.slice e, _, _, _⟩ => match tiOf P e with
    | some te => if len * te.size ≤ 16777216 ∧ len ≤ 16777216 ∧ te.zero.cells.toList.length = te.size ∧ te.zero.cells.toList.all flat = true then
        (fillA (fun i => some (i * te.size, te.size)) (reps len te.zero.cells.toList) parts).map fun l => (.slice (some ⟨H.length, 0, none⟩) len 0, H ++ [some ⟨l, e, false, true⟩]) else none
    | none => none
  | _ => none

theorem fillA_length {place : Nat → Option (Nat × Nat)} : ∀ {parts : List (Nat × Value)} {cells out : List Value}, fillA place cells parts = some out → out.length = cells.length
  | [], cells, out, h => by simp [fillA] at h; subst h; rfl
  | (i, v) :: rest, cells, out, h => by
    simp only [fillA] at h
    cases hp : place i with
    | none => rw [hp] at h; cases h
    | some os =>
      rw [hp] at h
      simp only at h
      split at h
      · rename_i hc
        rw [fillA_length h, length_splice hc.2.2]
      · cases h

theorem opBuildSlice_sound {P : Program} {ρ : Ren} {H : Heap} {w : World} {t : TypeId} {len : Nat} {parts : List (Nat × Value)} {v : Value} {H' : Heap} (h : Rep P ρ H w) (hp : ∀ p ∈ parts, ∀ i ∈ idsV p.2, i < H.length)
    (ho : opBuildSlice P H t len parts = some (v, H')) : OS P ρ H w (Instr.buildSlice t len (parts.map fun p => (p.1, mapV ρ p.2)).toArray) v H' := by
  unfold opBuildSlice at ho
  split at ho
  · rename_i e _ _ _ hti
    obtain ⟨i0, d, hi0, hd, hz, hs, _, hk⟩ := tiOf_spec hti
    have hd' := tk_slice hk
    subst hd'
    split at ho
    · rename_i te hte
      split at ho
      · rename_i hc
        obtain ⟨h24, hl24, hzl, hzf⟩ := hc
        have hsz : te.zero.cells.size = te.size := by simpa using hzl
        cases hl : fillA (fun i => some (i * te.size, te.size)) (reps len te.zero.cells.toList) parts with
        | none => rw [hl] at ho; cases ho
        | some l =>
          rw [hl] at ho
          simp only [Option.map_some, Option.some.injEq, Prod.mk.injEq] at ho
          obtain ⟨rfl, rfl⟩ := ho
          have hf : ∀ u ∈ reps len te.zero.cells.toList, flat u = true := fun u hu => (List.all_eq_true.1 hzf) u (mem_reps hu)
          obtain ⟨h1, h2⟩ := fillA_sound (toReal ρ) _ parts _ _ hl
          rw [map_flat_list (List.all_eq_true.2 hf)] at h1
          have hin : ∀ u ∈ l, (∀ i ∈ idsS u, i < H.length) ∧ scal u = true := by
            intro u hu
            rcases h2 u hu with h' | ⟨p, hp', h', hs'⟩
            · exact ⟨fun i hi => by (rw [idsS_flat (hf u h')] at hi; cases hi), scal_flat (hf u h')⟩
            · exact ⟨fun i hi => hp p hp' i (ids_cells (all_list hs') u h' i hi), (List.all_eq_true.1 hs') u h'⟩
          have hzero : ((Array.range (len * te.size)).map ((if len * te.size = 0 then (#[] : Array Value) else te.zero.cells)[· % (if len * te.size = 0 then (#[] : Array Value) else te.zero.cells).size]!)) = (reps len te.zero.cells.toList).toArray := by
            have := made_toList te.zero.cells len
            rw [hsz] at this
            apply Array.ext'
            rw [← this]
            by_cases h0 : len * te.size = 0
            · simp [h0, madeCells]
            · simp [h0, madeCells]
          refine ⟨_, { w with heap := w.heap.push (.cells (l.map (mapS ρ)).toArray e) }, ?_, adv_push h ⟨l, e, false, true⟩ (l.map (mapS ρ)).toArray len rfl rfl rfl rfl ?_ ?_ ?_ (fun _ => ⟨?_, ?_⟩) (fun h => by cases h), ?_⟩
          · have hno : ¬ (len * te.size > 2 ^ 24) := by omega
            have hret : mapV (updR ρ H.length ⟨w.heap.size, 0, len⟩) (.slice (some ⟨H.length, 0, none⟩) len 0) = .slice (some ⟨w.heap.size, 0, none⟩) len len := by
              simp [mapV, mpV, mpA, mpS, mpP, toReal, updR_eq]
            rw [hret]
            clear h2 hin hp hret
            have h1' : Instr.fill (fun i => some (i * te.size, te.size)) (reps len te.zero.cells.toList).toArray (parts.map fun p => (p.1, mapV ρ p.2)) = some (l.map (mapS ρ)).toArray := h1
            generalize (parts.map fun p => (p.1, mapV ρ p.2)) = ps at h1' ⊢
            by_cases h0 : len * te.size = 0
            · rw [if_pos h0, h0] at hzero
              simp only [Instr.buildSlice, run_underlying hd, run_size w hte, Sem.run_bind, Result.andThen_ok, h0, Sem.run_ite, Sem.run_pure, if_true]
              rw [if_neg (by omega)]
              try simp only [Result.andThen_ok, Sem.run_bind, Sem.run_pure]
              rw [hzero]
              simp [h1', newRow]
            · rw [if_neg h0] at hzero
              simp only [Instr.buildSlice, run_underlying hd, run_size w hte, Sem.run_bind, Result.andThen_ok, h0, Sem.run_ite, Sem.run_pure, if_false, run_zero w hte]
              rw [if_neg hno]
              try simp only [Result.andThen_ok, Sem.run_bind, Sem.run_pure]
              rw [hzero]
              simp [h1', newRow]
          · intro j u hu
            simpa using ⟨u, hu, rfl⟩
          · intro u hu; exact (hin u hu).1
          · intro u hu; exact (hin u hu).2
          · simp only [maxLen]; omega
          · have := fillA_length hl
            rw [length_reps, hzl] at this
            simp [this, cellsOf_ti hte]
          · simp [idsV, idsA, idsS, idsP]
      · cases ho
    · cases ho
  · cases ho

end Go.Am
