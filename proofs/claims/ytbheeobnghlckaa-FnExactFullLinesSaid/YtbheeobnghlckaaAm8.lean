/- The frame of all our walks, part 8: cutting and appending. No condition. -/
import Derived.Test.YtbheeobnghlckaaAm7
set_option linter.unusedVariables false
set_option linter.unusedSimpArgs false
namespace Go.Am
open Go.RowKit

def bnd (x : Option Value) (d : Nat) : Option Nat :=
  match x with
  | none => some d
  | some (.int _ n) => if 0 ≤ n then some n.toNat else none
  | _ => none

def opSlice (P : Program) (H : Heap) (t : TypeId) (x : Value) (lo hi : Option Value) : Option (Value × Heap) :=
  match tiOf P t with
  | some ⟨.string, _, _, _⟩ => match x with
    | .string s => match bnd lo 0, bnd hi s.size with
      | some l, some h => if l ≤ h ∧ h ≤ s.size then some (.string (s.extract l h), H) else none
      | _, _ => none
    | _ => none
  | some ⟨.array n e, _, _, _⟩ => match x, lo, hi with
    | .pointer (some a), none, none => match row? H a.block, tiOf P e with
      | some r, some te => if r.wr = true ∧ r.box = true ∧ a.off = 0 ∧ boxCap P r.elem = n then some (.slice (some ⟨a.block, 0, none⟩) n 0, H) else none
      | _, _ => none
    | _, _, _ => none
  | some ⟨.slice e, _, _, _⟩ => match x with
    | .slice none 0 0 => match bnd lo 0, bnd hi 0, tiOf P e with
      | some 0, some 0, some _ => some (.slice none 0 0, H)
      | _, _, _ => none
    | .slice (some a) len c => match row? H a.block, tiOf P e, bnd lo 0, bnd hi len with
      | some r, some te, some l, some h =>
        if r.box = false ∧ r.elem = e ∧ 0 < te.size ∧ (c + len) * te.size ≤ r.cells.length ∧ a.off = c * te.size ∧ l ≤ h ∧ h ≤ len then
          (if l < len then some (.slice (some ⟨a.block, a.off + l * te.size, none⟩) (h - l) (c + l), H)
          else some (.slice (some ⟨H.length, 0, none⟩) 0 0, H ++ [some ⟨[], e, false, false⟩]))
        else none
      | _, _, _, _ => none
    | _ => none
  | _ => none

theorem bnd_sound {P : Program} {ρ : Ren} {x : Option Value} {d n m : Nat} {code : BoundsCode} (h : bnd x d = some n) (hm : n ≤ m) (w : World) :
    (match x.map (mapV ρ) with
      | some v => Instr.sliceBound v m code
      | none => pure d : Sem Nat).run P w = .ok n w := by
  unfold bnd at h
  split at h
  · simp only [Option.some.injEq] at h; subst h; rfl
  · rename_i k i
    split at h
    · rename_i h0
      simp only [Option.some.injEq] at h
      subst h
      have : i ≤ (m : Int) := by omega
      simp [Instr.sliceBound, asIntOf, mapV, mpV, mpA, mpS, mpP, h0, this]
    · cases h
  · cases h

theorem run_bounds {P : Program} {ρ : Ren} {lo hi : Option Value} {len cap l h : Nat} {isS : Bool} (hl : bnd lo 0 = some l) (hh : bnd hi len = some h) (h1 : l ≤ h) (h2 : h ≤ cap) (w : World) :
    (Instr.sliceBounds isS len cap (lo.map (mapV ρ)) (hi.map (mapV ρ)) none).run P w = .ok (l, h, cap) w := by
  have a := bnd_sound (P := P) (ρ := ρ) (m := h) (code := .sliceB) hl h1 w
  have b := bnd_sound (P := P) (ρ := ρ) (m := cap) (code := if isS then .sliceAcap else .sliceAlen) hh h2 w
  unfold Instr.sliceBounds
  cases hi with
  | none =>
    cases lo with
    | none => simp at a b; subst a; subst b; simp
    | some v => simp at a b; subst b; simp [a]
  | some u =>
    cases lo with
    | none => simp at a b; subst a; simp [b]
    | some v => simp at a b; simp [a, b]

theorem opSlice_sound {P : Program} {ρ : Ren} {H : Heap} {w : World} {t : TypeId} {x : Value} {lo hi : Option Value} {v : Value} {H' : Heap} (h : Rep P ρ H w) (hx : ∀ i ∈ idsV x, i < H.length)
    (ho : opSlice P H t x lo hi = some (v, H')) : OS P ρ H w (Instr.sliceAt t (mapV ρ x) (lo.map (mapV ρ)) (hi.map (mapV ρ)) none) v H' := by
  unfold opSlice at ho
  split at ho
  · rename_i _ _ _ hti
    obtain ⟨i0, d, hi0, hd, hz, hs, _, hk⟩ := tiOf_spec hti
    have hd' := tk_string hk
    subst hd'
    split at ho
    · rename_i s
      split at ho
      · rename_i l hh hl1 hh1
        split at ho
        · rename_i hc
          simp only [Option.some.injEq, Prod.mk.injEq] at ho
          obtain ⟨rfl, rfl⟩ := ho
          refine OS.pure h ?_ (by simp [idsV, idsA, idsS, idsP])
          have hb := run_bounds (P := P) (ρ := ρ) (isS := false) hl1 hh1 hc.1 hc.2 w
          simp only [Instr.sliceAt, Instr.slice, Sem.run_bind, run_underlying hd, Result.andThen_ok]
          simp [mapV, mpV, mpA, mpS, mpP] at hb ⊢
          simp [run_underlying hd, hb]
        · cases ho
      · cases ho
    · cases ho
  · rename_i n e _ _ _ hti
    obtain ⟨i0, d, hi0, hd, hz, hs, _, hk⟩ := tiOf_spec hti
    have hd' := tk_array hk
    subst hd'
    split at ho
    · rename_i a
      split at ho
      · rename_i r te hr hsz
        split at ho
        · rename_i hc
          obtain ⟨c1, c2, c3, c4⟩ := hc
          simp only [Option.some.injEq, Prod.mk.injEq] at ho
          obtain ⟨rfl, rfl⟩ := ho
          obtain ⟨⟨cur, e', fz, hb, hcu, hwr, hlen⟩, hsc⟩ := h.row _ _ (row?_some hr)
          obtain ⟨h0, _, _, _, hbx⟩ := hwr c1
          have hcap := hbx c2
          rw [c4] at hcap
          refine OS.pure h ?_ (by simpa [idsV, idsA, idsS, idsP] using hx)
          simp [Instr.sliceAt, run_underlying hd, Instr.sureAddr, Instr.sliceBounds, mapV, mpV, mpA, mpS, mpP, toReal, run_size w hsz, hcap, c3, Addr.add]
        · cases ho
      · cases ho
    · cases ho
  · rename_i e _ _ _ hti
    obtain ⟨i0, d, hi0, hd, hz, hs, _, hk⟩ := tiOf_spec hti
    have hd' := tk_slice hk
    subst hd'
    split at ho
    · split at ho
      · rename_i te hl1 hh1 hsz
        simp only [Option.some.injEq, Prod.mk.injEq] at ho
        obtain ⟨rfl, rfl⟩ := ho
        refine OS.pure h ?_ (by simp [idsV, idsA, idsS, idsP])
        have hb := run_bounds (P := P) (ρ := ρ) (isS := true) (cap := 0) hl1 hh1 (Nat.le_refl _) (Nat.le_refl _) w
        simp [Instr.sliceAt, Instr.slice, run_underlying hd, hb, mapV, mpV, mpA, mpS, mpP, run_size w hsz] at hb ⊢
      · cases ho
    · rename_i a len c
      split at ho
      · rename_i r te l hh hr hte hl1 hh1
        split at ho
        · rename_i hc
          obtain ⟨c1, c2, c3, c4, c5, c6, c7⟩ := hc
          have hrow := h.row _ _ (row?_some hr)
          obtain ⟨⟨cur, e', fz, hb, hcu, hwr, hlen⟩, hsc⟩ := hrow
          have hcl := hlen c1
          rw [c2, cellsOf_ti hte] at hcl
          have hcap : c + len ≤ (ρ a.block).cap := Nat.le_of_mul_le_mul_right (Nat.le_trans c4 hcl) c3
          have hbd := run_bounds (P := P) (ρ := ρ) (isS := true) (cap := (ρ a.block).cap - c) hl1 hh1 c6 (by omega) w
          split at ho
          · rename_i hlt
            simp only [Option.some.injEq, Prod.mk.injEq] at ho
            obtain ⟨rfl, rfl⟩ := ho
            refine OS.pure h ?_ (by simpa [idsV, idsA, idsS, idsP] using hx)
            have hne : ¬ ((ρ a.block).cap - c = l) := by omega
            simp only [Instr.sliceAt, Instr.slice, Sem.run_bind, run_underlying hd, Result.andThen_ok, mapV, mpV, mpA, mpS, mpP, toReal] at hbd ⊢
            simp only [run_underlying hd, Result.andThen_ok, hbd, run_size w hte, hne, if_false, Option.map_some, Addr.add_lit, Sem.run_pure]
            simp only [Nat.add_assoc, Nat.sub_sub]
          · rename_i hlt
            simp only [Option.some.injEq, Prod.mk.injEq] at ho
            obtain ⟨rfl, rfl⟩ := ho
            have hlen' : l = len := by omega
            have hhl : hh = len := by omega
            subst hlen'
            refine ⟨_, w, ?_, adv_view h a.block r (row?_some hr) ⟨(ρ a.block).blk, if (ρ a.block).cap - c = l then (ρ a.block).off + a.off else (ρ a.block).off + a.off + l * te.size, (ρ a.block).cap - c - l⟩ rfl e, by simp [idsV, idsA, idsS, idsP]⟩
            simp only [Instr.sliceAt, Instr.slice, Sem.run_bind, run_underlying hd, Result.andThen_ok, mapV, mpV, mpA, mpS, mpP, toReal] at hbd ⊢
            simp only [run_underlying hd, Result.andThen_ok, hbd, run_size w hte, Sem.run_pure, updR_eq, hhl, Nat.sub_self, Nat.add_zero, Nat.sub_zero]
            split <;> simp [Addr.add_lit, *]
        · cases ho
      · cases ho
    · cases ho
  · cases ho

end Go.Am
