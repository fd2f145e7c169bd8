/- The frame of all our walks, part 6: further operations. No condition. -/
import Derived.Test.YtbheeobnghlckaaAm5
set_option linter.unusedVariables false
set_option linter.unusedSimpArgs false
namespace Go.Am
open Go.RowKit

/-! ### build -/
def placesOf (P : Program) : List (Nat × TypeId) → Option (List (Nat × Nat))
  | [] => some []
  | (o, t) :: r => match tiOf P t, placesOf P r with
    | some ti, some l => some ((o, ti.size) :: l)
    | _, _ => none

def opBuild (P : Program) (t : TypeId) (parts : List (Nat × Value)) : Option Value :=
  match tiOf P t with
  | some ⟨.array _ e, _, _, z⟩ => match tiOf P e with
    | some te => if z.cells.toList.all flat then (fillA (fun i => some (i * te.size, te.size)) z.cells.toList parts).map fun l => .agg l.toArray else none
    | none => none
  | some ⟨.struct fs, _, _, z⟩ => match placesOf P fs with
    | some pl => if z.cells.toList.all flat then (fillA (fun i => pl[i]?) z.cells.toList parts).map fun l => .agg l.toArray else none
    | none => none
  | _ => none

theorem placesOf_sound {P : Program} : ∀ {fs : List Field} {pl : List (Nat × Nat)}, placesOf P (fs.map fun f => (f.offset, f.type)) = some pl →
    fs.mapM (fun f => (P.info? f.type).map fun i => (f.offset, i.size)) = some pl
  | [], pl, h => by simp [placesOf] at h; subst h; rfl
  | f :: fs, pl, h => by
    simp only [List.map_cons, placesOf] at h
    cases hti : tiOf P f.type with
    | none => rw [hti] at h; simp at h
    | some ti =>
      cases hr : placesOf P (fs.map fun f => (f.offset, f.type)) with
      | none => rw [hti, hr] at h; simp at h
      | some l =>
        rw [hti, hr] at h
        simp only [Option.some.injEq] at h
        subst h
        obtain ⟨i, d, hi, hd, hz, hs, _, hk⟩ := tiOf_spec hti
        simp [List.mapM_cons, hi, placesOf_sound hr, hs]

theorem map_flat_list {m : Mp} {l : List Value} (h : l.all flat = true) : l.map (mpS m) = l := by
  conv => rhs; rw [← List.map_id l]
  exact List.map_congr_left fun v hv => mpS_flat ((List.all_eq_true.1 h) v hv)

theorem opBuild_sound {P : Program} {ρ : Ren} {t : TypeId} {parts : List (Nat × Value)} {v : Value} {n : Nat} (hp : ∀ p ∈ parts, ∀ i ∈ idsV p.2, i < n) (ho : opBuild P t parts = some v) (w : World) :
    (Instr.build t (parts.map fun p => (p.1, mapV ρ p.2)).toArray).run P w = .ok (mapV ρ v) w ∧ (∀ i ∈ idsV v, i < n) := by
  have fin : ∀ (place : Nat → Option (Nat × Nat)) (z : Value) (l : List Value), z.cells.toList.all flat = true → fillA place z.cells.toList parts = some l →
      Instr.fill place z.cells (parts.map fun p => (p.1, mapV ρ p.2)) = some (l.map (mapS ρ)).toArray ∧ ∀ i ∈ idsV (.agg l.toArray), i < n := by
    intro place z l hz hl
    obtain ⟨h1, h2⟩ := fillA_sound (toReal ρ) place parts _ _ hl
    rw [map_flat_list hz] at h1
    refine ⟨by simpa using h1, fun i hi => ?_⟩
    simp only [idsV, idsA, List.mem_flatMap] at hi
    obtain ⟨u, hu, hi⟩ := hi
    rcases h2 u (by simpa using hu) with h | ⟨p, hp', h, hs⟩
    · rw [idsS_flat ((List.all_eq_true.1 hz) u h)] at hi; cases hi
    · exact hp p hp' i (ids_cells (all_list hs) u h i hi)
  unfold opBuild at ho
  split at ho
  · rename_i len e sz by_ z hti
    obtain ⟨i0, d, hi0, hd, hz, hs, _, hk⟩ := tiOf_spec hti
    have hd' := tk_array hk
    subst hd'
    split at ho
    · rename_i te hte
      obtain ⟨i1, d1, hi1, hd1, hz1, hs1, _, hk1⟩ := tiOf_spec hte
      split at ho
      · rename_i hf
        cases hl : fillA (fun i => some (i * te.size, te.size)) z.cells.toList parts with
        | none => rw [hl] at ho; cases ho
        | some l =>
          rw [hl] at ho
          simp only [Option.map_some, Option.some.injEq] at ho
          subst ho
          obtain ⟨h1, h2⟩ := fin _ z l hf hl
          refine ⟨?_, h2⟩
          have := run_build (P := P) w t (parts.map fun p => (p.1, mapV ρ p.2)).toArray (l.map (mapS ρ)).toArray (by
            simp only [Program.built, hi0, hd, hz, hi1, hs1]
            exact h1)
          rw [this]
          simp [mapV, mpV, mpA]
      · cases ho
    · cases ho
  · rename_i fs sz by_ z hti
    obtain ⟨i0, d, hi0, hd, hz, hs, _, hk⟩ := tiOf_spec hti
    obtain ⟨gs, rfl, hfs⟩ := tk_struct hk
    split at ho
    · rename_i pl hpl
      rw [hfs] at hpl
      have hpl' := placesOf_sound hpl
      split at ho
      · rename_i hf
        cases hl : fillA (fun i => pl[i]?) z.cells.toList parts with
        | none => rw [hl] at ho; cases ho
        | some l =>
          rw [hl] at ho
          simp only [Option.map_some, Option.some.injEq] at ho
          subst ho
          obtain ⟨h1, h2⟩ := fin _ z l hf hl
          refine ⟨?_, h2⟩
          have := run_build (P := P) w t (parts.map fun p => (p.1, mapV ρ p.2)).toArray (l.map (mapS ρ)).toArray (by
            simp only [Program.built, hi0, hd, hz, hpl']
            simpa using h1)
          rw [this]
          simp [mapV, mpV, mpA]
      · cases ho
    · cases ho
  · cases ho

/-! ### an element, a field of a value -/
def partL (P : Program) (t : TypeId) (cs : List Value) (off : Nat) : Option Value :=
  match tiOf P t with
  | some ti => if ti.kd.isAgg then (if off + ti.size ≤ cs.length then some (.agg ((cs.drop off).take ti.size).toArray) else none)
    else (match cs[off]? with
      | some v => if scal v then some v else none
      | none => none)
  | none => none

theorem partL_sound {P : Program} {ρ : Ren} {t : TypeId} {cs : Array Value} {off : Nat} {v : Value} {n : Nat} (hx : ∀ i ∈ idsV (.agg cs), i < n) (ho : partL P t cs.toList off = some v) (w : World) :
    (part t (cs.map (mapS ρ)) off).run P w = .ok (mapV ρ v) w ∧ ∀ i ∈ idsV v, i < n := by
  have hx' : ∀ u ∈ cs.toList, ∀ i ∈ idsS u, i < n := fun u hu i hi => hx i (by simp only [idsV, idsA, List.mem_flatMap]; exact ⟨u, hu, hi⟩)
  unfold partL at ho
  split at ho
  · rename_i ti hti
    split at ho
    · rename_i hagg
      split at ho
      · rename_i hle
        simp only [Option.some.injEq] at ho
        subst ho
        refine ⟨?_, ?_⟩
        · have hex : (cs.map (mapS ρ)).extract off (off + ti.size) = (((cs.toList.drop off).take ti.size).map (mapS ρ)).toArray := by
            apply Array.ext'
            simp [List.extract_eq_take_drop, List.map_take, List.map_drop]
          simp [part, run_isAgg w hti, hagg, run_size w hti, hex, mapV, mpV, mpA]
        · intro i hi
          simp only [idsV, idsA, List.mem_flatMap] at hi
          obtain ⟨u, hu, hi⟩ := hi
          exact hx' u (List.mem_of_mem_drop (List.mem_of_mem_take (by simpa using hu))) i hi
      · cases ho
    · rename_i hagg
      split at ho
      · rename_i u hu
        split at ho
        · rename_i hsc
          simp only [Option.some.injEq] at ho
          subst ho
          have hu' : cs[off]? = some u := by simpa using hu
          refine ⟨?_, ?_⟩
          · simp [part, run_isAgg w hti, hagg, hu', mapV, mapV_scal hsc]
          · rw [idsV_scal hsc]; exact hx' u (List.mem_of_getElem? hu)
        · cases ho
      · cases ho
  · cases ho

def opIndex (P : Program) (t : TypeId) (x i : Value) : Option Value :=
  match i with
  | .int _ n => match x, tiOf P t with
    | .agg cs, some ⟨.array len e, _, _, _⟩ => match tiOf P e with
      | some te => if 0 ≤ n ∧ n < (len : Int) then partL P e cs.toList (n.toNat * te.size) else none
      | none => none
    | .string s, some ⟨.string, _, _, _⟩ => if 0 ≤ n then (s.data.toList[n.toNat]?).map fun b => .int .u8 b.toNat else none
    | _, _ => none
  | _ => none

theorem opIndex_sound {P : Program} {ρ : Ren} {t : TypeId} {x i v : Value} {n : Nat} (hx : ∀ k ∈ idsV x, k < n) (ho : opIndex P t x i = some v) (w : World) :
    (Instr.index t (mapV ρ x) (mapV ρ i)).run P w = .ok (mapV ρ v) w ∧ ∀ k ∈ idsV v, k < n := by
  unfold opIndex at ho
  split at ho
  · rename_i k m
    split at ho
    · rename_i cs len e _ _ _ hti
      obtain ⟨i0, d, hi0, hd, hz, hs, _, hk⟩ := tiOf_spec hti
      have hd' := tk_array hk
      subst hd'
      split at ho
      · rename_i te hte
        split at ho
        · rename_i hr
          obtain ⟨h1, h2⟩ := partL_sound (ρ := ρ) hx ho w
          refine ⟨?_, h2⟩
          simp only [Instr.index, mapV, mpV, mpA, mpS, mpP, asIntOf, Sem.run_bind, Sem.run_pure, Result.andThen_ok, run_underlying hd, hr.1, hr.2, and_self, if_true, run_size w hte]
          exact h1
        · cases ho
      · cases ho
    · rename_i s _ _ _ hti
      obtain ⟨i0, d, hi0, hd, hz, hs, _, hk⟩ := tiOf_spec hti
      have hd' := tk_string hk
      subst hd'
      split at ho
      · rename_i h0
        cases hb : s.data.toList[m.toNat]? with
        | none => rw [hb] at ho; cases ho
        | some b =>
          rw [hb] at ho
          simp only [Option.map_some, Option.some.injEq] at ho
          subst ho
          have hb' : s[m.toNat]? = some b := by
            have hlt := lt_of_some hb
            have e2 : s.data.toList[m.toNat]'hlt = b := (List.getElem?_eq_some_iff.1 hb).2
            have hlt' : m.toNat < s.size := by simpa using hlt
            rw [getElem?_pos s m.toNat hlt']
            rw [← e2]
            rfl
          refine ⟨?_, by simp [idsV, idsA, idsS, idsP]⟩
          simp [Instr.index, asIntOf, run_underlying hd, mapV, mpV, mpA, mpS, mpP, h0, hb']
      · cases ho
    · cases ho
  · cases ho

def opField (P : Program) (t : TypeId) (x : Value) (f : Nat) : Option Value :=
  match x, tiOf P t with
  | .agg cs, some ⟨.struct fs, _, _, _⟩ => match fs[f]? with
    | some (off, ft) => partL P ft cs.toList off
    | none => none
  | _, _ => none

theorem opField_sound {P : Program} {ρ : Ren} {t : TypeId} {x v : Value} {f n : Nat} (hx : ∀ k ∈ idsV x, k < n) (ho : opField P t x f = some v) (w : World) :
    (Instr.field t (mapV ρ x) f).run P w = .ok (mapV ρ v) w ∧ ∀ k ∈ idsV v, k < n := by
  unfold opField at ho
  split at ho
  · rename_i cs fs _ _ _ hti
    obtain ⟨i0, d, hi0, hd, hz, hs, _, hk⟩ := tiOf_spec hti
    obtain ⟨gs, rfl, rfl⟩ := tk_struct hk
    split at ho
    · rename_i off ft hf
      obtain ⟨h1, h2⟩ := partL_sound (ρ := ρ) hx ho w
      refine ⟨?_, h2⟩
      rw [List.getElem?_map] at hf
      cases hg : gs[f]? with
      | none => rw [Array.getElem?_toList, hg] at hf; cases hf
      | some g =>
        rw [Array.getElem?_toList, hg] at hf
        simp only [Option.map_some, Option.some.injEq, Prod.mk.injEq] at hf
        obtain ⟨rfl, rfl⟩ := hf
        simp only [Instr.field, mapV, mpV, mpA, Sem.run_bind, Sem.run_pure, Result.andThen_ok, run_underlying hd, hg, asAgg]
        exact h1
    · cases ho
  · cases ho

/-! ### one operand -/
def opUn (op : UnOp) (x : Value) : Option Value :=
  match op, x with
  | .not, .bool b => some (.bool (!b))
  | .neg, .int k n => some (.int k (k.wrap (0 - n)))
  | _, _ => none
theorem opUn_sound {P : Program} {ρ : Ren} {op : UnOp} {x v : Value} (ho : opUn op x = some v) (w : World) : (Op.unary op (mapV ρ x)).run P w = .ok (mapV ρ v) w ∧ flat v = true := by
  unfold opUn at ho
  split at ho
  · simp only [Option.some.injEq] at ho; subst ho; exact ⟨by simp [Op.unary, mapV, mpV, mpA, mpS, mpP], rfl⟩
  · simp only [Option.some.injEq] at ho; subst ho; exact ⟨by simp [Op.unary, Op.intArith, mapV, mpV, mpA, mpS, mpP], rfl⟩
  · cases ho

def opConv (P : Program) (s d : TypeId) (x : Value) : Option Value :=
  match x, tiOf P s, tiOf P d with
  | .int _ n, some _, some ⟨.int k, _, _, _⟩ => some (.int k (k.wrap n))
  | .string b, some ⟨.string, _, _, _⟩, some ⟨.string, _, _, _⟩ => some (.string b)
  | _, _, _ => none
theorem opConv_sound {P : Program} {ρ : Ren} {s d : TypeId} {x v : Value} (ho : opConv P s d x = some v) (w : World) : (convert s d (mapV ρ x)).run P w = .ok (mapV ρ v) w ∧ flat v = true := by
  unfold opConv at ho
  split at ho
  · rename_i k0 n ti k _ _ _ hs hd
    obtain ⟨i0, d0, hi0, hd0, _, _, _, hk0⟩ := tiOf_spec hs
    obtain ⟨i1, d1, hi1, hd1, _, _, _, hk1⟩ := tiOf_spec hd
    have hd' := tk_int hk1
    subst hd'
    simp only [Option.some.injEq] at ho
    subst ho
    exact ⟨by simp [convert, run_underlying hd0, run_underlying hd1, Conv.intToInt, mapV, mpV, mpA, mpS, mpP], rfl⟩
  · rename_i b _ _ _ _ _ _ hs hd
    obtain ⟨i0, d0, hi0, hd0, _, _, _, hk0⟩ := tiOf_spec hs
    obtain ⟨i1, d1, hi1, hd1, _, _, _, hk1⟩ := tiOf_spec hd
    have h0 := tk_string hk0
    have h1 := tk_string hk1
    subst h0; subst h1
    simp only [Option.some.injEq] at ho
    subst ho
    exact ⟨by simp [convert, run_underlying hd0, run_underlying hd1, mapV, mpV, mpA, mpS, mpP], rfl⟩
  · cases ho

def opExtract (x : Value) (i : Nat) : Option Value :=
  match x with
  | .tuple vs => match vs.toList[i]? with
    | some (.tuple _) => none
    | some v => some v
    | none => none
  | _ => none
theorem opExtract_sound {P : Program} {ρ : Ren} {x v : Value} {i n : Nat} (hx : ∀ k ∈ idsV x, k < n) (ho : opExtract x i = some v) (w : World) :
    (Instr.extract (mapV ρ x) i).run P w = .ok (mapV ρ v) w ∧ ∀ k ∈ idsV v, k < n := by
  unfold opExtract at ho
  split at ho
  · rename_i vs
    split at ho
    · cases ho
    · rename_i u hnt hu
      simp only [Option.some.injEq] at ho
      subst ho
      have hu' : vs[i]? = some u := by simpa using hu
      have hm : mapV ρ u = mapA ρ u := by
        cases u <;> first | rfl | exact absurd rfl (hnt _)
      have hi : idsV u = idsA u := by
        cases u <;> first | rfl | exact absurd rfl (hnt _)
      refine ⟨?_, fun k hk => hx k ?_⟩
      · rw [hm]; simp [Instr.extract, mapV, mpV, hu']
      · simp only [idsV, List.mem_flatMap]; exact ⟨u, List.mem_of_getElem? hu, by rw [← hi]; exact hk⟩
    · cases ho
  · cases ho

def opFunc (fn : Fn) (first cap : List Value) : Option Value :=
  if first.all pscal = true ∧ cap.all pscal = true then some (.func fn first.toArray cap.toArray) else none
theorem map_pscal {m : Mp} {l : List Value} (h : l.all pscal = true) : l.map (mpV m) = l.map (mpP m) :=
  List.map_congr_left fun v hv => mapV_pscal ((List.all_eq_true.1 h) v hv)
theorem opFunc_sound {P : Program} {ρ : Ren} {fn : Fn} {first cap : List Value} {v : Value} {n : Nat} (h1 : ∀ x ∈ first, ∀ i ∈ idsV x, i < n) (h2 : ∀ x ∈ cap, ∀ i ∈ idsV x, i < n) (ho : opFunc fn first cap = some v) (w : World) :
    (Instr.makeFunc fn (first.map (mapV ρ)).toArray (cap.map (mapV ρ)).toArray).run P w = .ok (mapV ρ v) w ∧ ∀ k ∈ idsV v, k < n := by
  unfold opFunc at ho
  split at ho
  · rename_i hc
    simp only [Option.some.injEq] at ho
    subst ho
    refine ⟨?_, ?_⟩
    · simp only [Instr.makeFunc, Sem.run_pure, mapV]
      rw [map_pscal hc.1, map_pscal hc.2]
      simp [mpV, mpA, mpS]
    · intro k hk
      simp only [idsV, idsA, idsS, List.mem_flatMap, List.mem_append] at hk
      obtain ⟨u, hu, hk⟩ := hk
      rcases hu with hu | hu
      · have hu' : u ∈ first := by simpa using hu
        exact h1 u hu' k (by rw [idsV_pscal ((List.all_eq_true.1 hc.1) u hu')]; exact hk)
      · have hu' : u ∈ cap := by simpa using hu
        exact h2 u hu' k (by rw [idsV_pscal ((List.all_eq_true.1 hc.2) u hu')]; exact hk)
  · cases ho

/-! ### len, min, max -/
def opLen (P : Program) (t : TypeId) (x : Value) : Option Value :=
  match x, tiOf P t with
  | .string s, some ⟨.string, _, _, _⟩ => some (.int .i64 s.size)
  | .slice _ n _, some ⟨.slice _, _, _, _⟩ => some (.int .i64 n)
  | _, some ⟨.array n _, _, _, _⟩ => some (.int .i64 n)
  | _, _ => none
theorem opLen_sound {P : Program} {ρ : Ren} {t ty : TypeId} {x v : Value} (ho : opLen P t x = some v) (w : World) : (Builtin.len_ #[t] ty #[mapV ρ x]).run P w = .ok (mapV ρ v) w ∧ flat v = true := by
  unfold opLen at ho
  split at ho
  · rename_i s _ _ _ hs
    obtain ⟨i0, d0, hi0, hd0, _, _, _, hk0⟩ := tiOf_spec hs
    have h0 := tk_string hk0
    subst h0
    simp only [Option.some.injEq] at ho
    subst ho
    exact ⟨by simp [Builtin.len_, run_underlying hd0, mapV, mpV, mpA, mpS, mpP, goInt], rfl⟩
  · rename_i a n c _ _ _ _ hs
    obtain ⟨i0, d0, hi0, hd0, _, _, _, hk0⟩ := tiOf_spec hs
    have h0 := tk_slice hk0
    subst h0
    simp only [Option.some.injEq] at ho
    subst ho
    refine ⟨?_, rfl⟩
    cases a <;> simp [Builtin.len_, run_underlying hd0, mapV, mpV, mpA, mpS, mpP, goInt]
  · rename_i n _ _ _ _ hs
    obtain ⟨i0, d0, hi0, hd0, _, _, _, hk0⟩ := tiOf_spec hs
    have h0 := tk_array hk0
    subst h0
    simp only [Option.some.injEq] at ho
    subst ho
    exact ⟨by simp [Builtin.len_, run_underlying hd0, mapV, mpV, mpA, mpS, mpP, goInt], rfl⟩
  · cases ho

def foldMin (k : IntKind) : Int → List Value → Option Int
  | x, [] => some x
  | x, .int _ y :: r => foldMin k (if y < x then y else x) r
  | _, _ => none
def foldMax (k : IntKind) : Int → List Value → Option Int
  | x, [] => some x
  | x, .int _ y :: r => foldMax k (if x < y then y else x) r
  | _, _ => none
def opMin (xs : List Value) : Option Value :=
  match xs with
  | .int k x :: r => (foldMin k x r).map fun y => .int k y
  | _ => none
def opMax (xs : List Value) : Option Value :=
  match xs with
  | .int k x :: r => (foldMax k x r).map fun y => .int k y
  | _ => none
theorem foldMin_sound {P : Program} {ρ : Ren} {k : IntKind} (w : World) : ∀ (r : List Value) (x y : Int), foldMin k x r = some y → ((r.map (mapV ρ)).foldlM Builtin.min2 (.int k x)).run P w = .ok (.int k y) w
  | [], x, y, h => by simp [foldMin] at h; subst h; simp
  | v :: r, x, y, h => by
    cases v <;> simp only [foldMin] at h <;> first | cases h | skip
    rename_i k' z
    have := foldMin_sound (P := P) (ρ := ρ) (k := k) w r _ y h
    simp only [List.map_cons, List.foldlM_cons, Sem.run_bind, mapV, mpV, mpA, mpS, mpP, Builtin.min2, Sem.run_pure, Result.andThen_ok]
    exact this
theorem foldMax_sound {P : Program} {ρ : Ren} {k : IntKind} (w : World) : ∀ (r : List Value) (x y : Int), foldMax k x r = some y → ((r.map (mapV ρ)).foldlM Builtin.max2 (.int k x)).run P w = .ok (.int k y) w
  | [], x, y, h => by simp [foldMax] at h; subst h; simp
  | v :: r, x, y, h => by
    cases v <;> simp only [foldMax] at h <;> first | cases h | skip
    rename_i k' z
    have := foldMax_sound (P := P) (ρ := ρ) (k := k) w r _ y h
    simp only [List.map_cons, List.foldlM_cons, Sem.run_bind, mapV, mpV, mpA, mpS, mpP, Builtin.max2, Sem.run_pure, Result.andThen_ok]
    exact this
theorem opMin_sound {P : Program} {ρ : Ren} {ts : Array TypeId} {ty : TypeId} {xs : List Value} {v : Value} (ho : opMin xs = some v) (w : World) : (Builtin.min_ ts ty (xs.map (mapV ρ)).toArray).run P w = .ok (mapV ρ v) w ∧ flat v = true := by
  unfold opMin at ho
  split at ho
  · rename_i k x r
    cases hf : foldMin k x r with
    | none => rw [hf] at ho; cases ho
    | some y =>
      rw [hf] at ho
      simp only [Option.map_some, Option.some.injEq] at ho
      subst ho
      exact ⟨foldMin_sound (ρ := ρ) w r x y hf, rfl⟩
  · cases ho
theorem opMax_sound {P : Program} {ρ : Ren} {ts : Array TypeId} {ty : TypeId} {xs : List Value} {v : Value} (ho : opMax xs = some v) (w : World) : (Builtin.max_ ts ty (xs.map (mapV ρ)).toArray).run P w = .ok (mapV ρ v) w ∧ flat v = true := by
  unfold opMax at ho
  split at ho
  · rename_i k x r
    cases hf : foldMax k x r with
    | none => rw [hf] at ho; cases ho
    | some y =>
      rw [hf] at ho
      simp only [Option.map_some, Option.some.injEq] at ho
      subst ho
      exact ⟨foldMax_sound (ρ := ρ) w r x y hf, rfl⟩
  · cases ho

end Go.Am
