/- The frame of all our walks, part 3: '==' of arrays and structs of whole numbers. No condition. -/
import Derived.Test.YtbheeobnghlckaaAm2
import Derived.Laws.StructEq
set_option linter.unusedVariables false
set_option linter.unusedSimpArgs false
namespace Go.Am
open Go.RowKit

theorem eqCells_length : ∀ {x y : List Value} {b : Bool}, eqCells x y = some b → x.length = y.length
  | [], [], _, _ => rfl
  | [], _ :: _, _, h => by simp [eqCells] at h
  | x :: _, [], _, h => by cases x <;> simp [eqCells] at h
  | u :: x, v :: y, _, h => by
    cases u <;> cases v <;> first
      | (simp [eqCells] at h; done)
      | skip
    simp only [eqCells] at h
    split at h
    · cases he : eqCells x y with
      | none => rw [he] at h; cases h
      | some r => have := eqCells_length he; simp [this]
    · cases h

theorem eqCells_append : ∀ {x1 y1 x2 y2 : List Value} {b : Bool}, x1.length = y1.length → eqCells (x1 ++ x2) (y1 ++ y2) = some b →
    ∃ b1 b2, eqCells x1 y1 = some b1 ∧ eqCells x2 y2 = some b2 ∧ b = (b1 && b2)
  | [], [], x2, y2, b, _, h => ⟨true, b, rfl, h, by simp⟩
  | [], _ :: _, _, _, _, hl, _ => by simp at hl
  | _ :: _, [], _, _, _, hl, _ => by simp at hl
  | u :: x, v :: y, x2, y2, b, hl, h => by
    cases u <;> cases v <;> first
      | (simp [eqCells] at h; done)
      | skip
    rename_i k a k' c
    simp only [List.cons_append, eqCells] at h
    split at h
    · rename_i hk
      cases he : eqCells (x ++ x2) (y ++ y2) with
      | none => rw [he] at h; cases h
      | some r =>
        rw [he] at h
        simp only [Option.map_some, Option.some.injEq] at h
        obtain ⟨b1, b2, h1, h2, h3⟩ := eqCells_append (by simpa using hl) he
        exact ⟨(a == c) && b1, b2, by simp [eqCells, hk, h1], h2, by rw [← h, h3, Bool.and_assoc]⟩
    · cases h

/-- the value of a type out of its cells -/
def Packed (P : Program) (t : TypeId) (xs : List Value) (v : Value) : Prop :=
  ((∃ k, P.underlying t = some (.int k)) ∧ xs = [v]) ∨ (((∃ n e, P.underlying t = some (.array n e)) ∨ ∃ fs, P.underlying t = some (.struct fs)) ∧ v = .agg xs.toArray)

theorem FlatTy.packed {P : Program} {d : Nat} {t : TypeId} {n : Nat} (h : FlatTy P d t n) (xs : List Value) (hx : xs.length = n) : ∃ v, Packed P t xs v := by
  cases h with
  | int hu =>
    match xs, hx with
    | [v], _ => exact ⟨v, Or.inl ⟨⟨_, hu⟩, rfl⟩⟩
  | array hu _ _ => exact ⟨_, Or.inr ⟨Or.inl ⟨_, _, hu⟩, rfl⟩⟩
  | struct hu _ _ _ _ _ => exact ⟨_, Or.inr ⟨Or.inr ⟨_, hu⟩, rfl⟩⟩

theorem run_part_flat {P : Program} {d : Nat} {t : TypeId} {n : Nat} (h : FlatTy P d t n) (hs : (P.info? t).map (·.size) = some n) (xs : List Value) (off : Nat) (hx : off + n ≤ xs.length) {v : Value} (hv : Packed P t ((xs.drop off).take n) v) (w : World) :
    (part t xs.toArray off).run P w = .ok v w := by
  obtain ⟨i, hi, hsz⟩ : ∃ i, P.info? t = some i ∧ i.size = n := by
    cases hi : P.info? t with
    | none => rw [hi] at hs; cases hs
    | some i => rw [hi] at hs; exact ⟨i, rfl, by simpa using hs⟩
  have agg : ∀ dd, P.underlying t = some dd → (match dd with | .struct _ | .array _ _ => true | _ => false) = true → v = .agg ((xs.drop off).take n).toArray → (part t xs.toArray off).run P w = .ok v w := by
    intro dd hd hk he
    subst he
    simp only [part, isAgg, Sem.run_bind, run_underlying hd, Result.andThen_ok]
    have hex : xs.toArray.extract off (off + n) = ((xs.drop off).take n).toArray := by
      apply Array.ext'
      simp [List.extract_eq_take_drop]
    cases dd <;> first
      | (simp at hk; done)
      | simp [sizeOf, typeInfo, hi, hsz, hex]
  rcases hv with ⟨⟨k, hu⟩, he⟩ | ⟨⟨m, e, hu⟩ | ⟨fs, hu⟩, he⟩
  · have hn : n = 1 := by
      have := congrArg List.length he
      simp only [List.length_take, List.length_drop, List.length_singleton] at this
      omega
    subst hn
    have hat : xs[off]? = some v := by
      have : ((xs.drop off).take 1)[0]? = some v := by rw [he]; rfl
      simpa using this
    simp [part, isAgg, run_underlying hu, hat]
  · exact agg _ hu rfl he
  · exact agg _ hu rfl he

/-- the elements one by one -/
def eqElems (d : Nat) (e : TypeId) (s : Nat) (xs ys : Array Value) : List Nat → Sem Bool
  | [] => pure true
  | i :: is => do
    let a ← part e xs (i * s)
    let b ← part e ys (i * s)
    let r ← Op.equalIn d e a b
    if (!r) = true then pure false else eqElems d e s xs ys is

theorem run_equalIn_array {P : Program} (w : World) (d : Nat) (t e : TypeId) (n s : Nat) (xs ys : Array Value) (ht : P.underlying t = some (.array n e)) (hs : (P.info? e).map (·.size) = some s) :
    (Op.equalIn (d + 1) t (.agg xs) (.agg ys)).run P w = (eqElems d e s xs ys (List.range n)).run P w := by
  obtain ⟨i, hi, hsz⟩ : ∃ i, P.info? e = some i ∧ i.size = s := by
    cases hi : P.info? e with
    | none => rw [hi] at hs; cases hs
    | some i => rw [hi] at hs; exact ⟨i, rfl, by simpa using hs⟩
  simp only [Op.equalIn, Sem.run_bind, run_underlying ht, Result.andThen_ok, sizeOf, typeInfo, run_program, hi, Sem.run_pure, hsz]
  rw [Std.Legacy.Range.forIn_eq_forIn_range']
  simp only [Std.Legacy.Range.size, Nat.sub_zero, Nat.add_sub_cancel, Nat.div_one]
  rw [← List.range_eq_range']
  generalize List.range n = is
  induction is generalizing w with
  | nil => simp [eqElems]
  | cons f fs ih =>
    simp only [List.forIn_cons, eqElems, Sem.run_bind, Sem.run_ite]
    generalize (part e xs (f * s)).run P w = r1
    cases r1 with
    | ok a w1 =>
      simp only [Result.andThen_ok]
      generalize (part e ys (f * s)).run P w1 = r2
      cases r2 with
      | ok b w2 =>
        simp only [Result.andThen_ok]
        generalize (Op.equalIn d e a b).run P w2 = r3
        cases r3 with
        | ok r w3 =>
          cases r
          · simp only [Result.andThen_ok, Bool.not_false, if_true, Sem.run_pure]
          · simp only [Result.andThen_ok, Bool.not_true, Bool.false_eq_true, if_false, Sem.run_pure]
            exact ih w3
        | halt x w3 => simp [Result.andThen]
      | halt x w2 => simp [Result.andThen]
    | halt x w1 => simp [Result.andThen]

theorem eqFields_run {P : Program} {D : Nat} {w : World} {xs ys : Array Value} : ∀ {fs : List Field} {bs : List Bool}, bs.length = fs.length →
    (∀ (i : Nat) (f : Field) (b : Bool), fs[i]? = some f → bs[i]? = some b → (f.name == "_") = false ∧ ∃ u v, (part f.type xs f.offset).run P w = .ok u w ∧ (part f.type ys f.offset).run P w = .ok v w ∧ (Op.equalIn D f.type u v).run P w = .ok b w) →
    (Op.eqFields D xs ys fs).run P w = .ok (bs.all id) w
  | [], [], _, _ => by simp [Op.eqFields]
  | f :: fs, b :: bs, hl, h => by
    obtain ⟨hn, u, v, hu, hv, he⟩ := h 0 f b rfl rfl
    have hn' : f.name ≠ "_" := by simpa using hn
    have ih := eqFields_run (P := P) (D := D) (w := w) (xs := xs) (ys := ys) (fs := fs) (bs := bs) (by simpa using hl) (fun i g c hg hc => h (i + 1) g c hg hc)
    rw [Op.eqFields, if_pos hn']
    simp only [Sem.run_bind, hu, hv, he, Result.andThen_ok]
    cases b
    · simp
    · simpa using ih
  | [], _ :: _, hl, _ => by simp at hl
  | _ :: _, [], hl, _ => by simp at hl

theorem eqElems_run {P : Program} {D : Nat} {e : TypeId} {s : Nat} {w : World} {xs ys : Array Value} : ∀ {is : List Nat} {bs : List Bool}, bs.length = is.length →
    (∀ (i j : Nat) (b : Bool), is[i]? = some j → bs[i]? = some b → ∃ u v, (part e xs (j * s)).run P w = .ok u w ∧ (part e ys (j * s)).run P w = .ok v w ∧ (Op.equalIn D e u v).run P w = .ok b w) →
    (eqElems D e s xs ys is).run P w = .ok (bs.all id) w
  | [], [], _, _ => by simp [eqElems]
  | f :: fs, b :: bs, hl, h => by
    obtain ⟨u, v, hu, hv, he⟩ := h 0 f b rfl rfl
    have ih := eqElems_run (P := P) (D := D) (e := e) (s := s) (w := w) (xs := xs) (ys := ys) (is := fs) (bs := bs) (by simpa using hl) (fun i g c hg hc => h (i + 1) g c hg hc)
    rw [eqElems]
    simp only [Sem.run_bind, hu, hv, he, Result.andThen_ok]
    cases b
    · simp
    · simpa using ih
  | [], _ :: _, hl, _ => by simp at hl
  | _ :: _, [], hl, _ => by simp at hl

/-- cells cut into parts, compared part by part -/
theorem eqCells_parts : ∀ (ms : List Nat) (xs ys : List Value) (b : Bool), xs.length = ms.sum → eqCells xs ys = some b →
    ∃ bs : List Bool, bs.length = ms.length ∧ b = bs.all id ∧ ∀ (i m : Nat) (c : Bool), ms[i]? = some m → bs[i]? = some c → eqCells ((xs.drop (ms.take i).sum).take m) ((ys.drop (ms.take i).sum).take m) = some c
  | [], xs, ys, b, hl, h => by
    have hx : xs = [] := List.eq_nil_of_length_eq_zero (by simpa using hl)
    subst hx
    have hy : ys = [] := List.eq_nil_of_length_eq_zero (by have := eqCells_length h; simpa using this.symm)
    subst hy
    simp only [eqCells, Option.some.injEq] at h
    exact ⟨[], rfl, by simp [← h], by simp⟩
  | m :: ms, xs, ys, b, hl, h => by
    have hxy := eqCells_length h
    simp only [List.sum_cons] at hl
    have h' : eqCells (xs.take m ++ xs.drop m) (ys.take m ++ ys.drop m) = some b := by rw [List.take_append_drop, List.take_append_drop]; exact h
    obtain ⟨b1, b2, h1, h2, h3⟩ := eqCells_append (by simp; omega) h'
    obtain ⟨bs, hb1, hb2, hb3⟩ := eqCells_parts ms (xs.drop m) (ys.drop m) b2 (by simp; omega) h2
    refine ⟨b1 :: bs, by simp [hb1], by simp [h3, hb2], ?_⟩
    intro i k c hk hc
    cases i with
    | zero =>
      simp only [List.getElem?_cons_zero, Option.some.injEq] at hk hc
      subst hk; subst hc
      simpa using h1
    | succ i =>
      simp only [List.getElem?_cons_succ] at hk hc
      have := hb3 i k c hk hc
      simpa [List.take_succ_cons, List.sum_cons, List.drop_drop, Nat.add_comm] using this

theorem take_sum_le : ∀ (ms : List Nat) (i m : Nat), ms[i]? = some m → (ms.take i).sum + m ≤ ms.sum
  | [], i, m, h => by simp at h
  | a :: ms, 0, m, h => by simp at h; subst h; simp
  | a :: ms, i + 1, m, h => by
    have := take_sum_le ms i m (by simpa using h)
    simp only [List.take_succ_cons, List.sum_cons]
    omega

theorem sum_replicate (n m : Nat) : (List.replicate n m).sum = n * m := by
  induction n with
  | zero => simp
  | succ n ih => rw [List.replicate_succ, List.sum_cons, ih, Nat.succ_mul, Nat.add_comm]

theorem flat_eq {P : Program} : ∀ (d : Nat) (t : TypeId) (n : Nat), FlatTy P d t n → ∀ (xs ys : List Value) (u v : Value) (b : Bool), xs.length = n → eqCells xs ys = some b → Packed P t xs u → Packed P t ys v →
    ∀ D, d ≤ D → ∀ w, (Op.equalIn D t u v).run P w = .ok b w
  | 0, _, _, h, _, _, _, _, _, _, _, _, _, _, _, _ => by cases h
  | d + 1, t, n, h, xs, ys, u, v, b, hl, he, hu, hv, D, hD, w => by
    obtain ⟨D, rfl⟩ : ∃ k, D = k + 1 := ⟨D - 1, by omega⟩
    have hly := eqCells_length he
    cases h with
    | @int _ _ k hk =>
      rcases hu with ⟨_, rfl⟩ | ⟨⟨_, _, h2⟩ | ⟨_, h2⟩, _⟩
      · rcases hv with ⟨_, rfl⟩ | ⟨⟨_, _, h2⟩ | ⟨_, h2⟩, _⟩
        · cases u <;> cases v <;> first
            | (simp [eqCells] at he; done)
            | skip
          rename_i k1 a k2 c
          simp only [eqCells] at he
          split at he
          · rename_i hkk
            subst hkk
            simp only [Option.map_some, Bool.and_true, Option.some.injEq] at he
            subst he
            exact run_equalIn_int w D t k1 k a c hk
          · cases he
        · rw [hk] at h2; cases h2
        · rw [hk] at h2; cases h2
      · rw [hk] at h2; cases h2
      · rw [hk] at h2; cases h2
    | @array _ _ e n m ha hf hs =>
      have hu' : u = .agg xs.toArray := by rcases hu with ⟨⟨_, h2⟩, _⟩ | ⟨_, h2⟩; (rw [ha] at h2; cases h2); exact h2
      have hv' : v = .agg ys.toArray := by rcases hv with ⟨⟨_, h2⟩, _⟩ | ⟨_, h2⟩; (rw [ha] at h2; cases h2); exact h2
      subst hu'; subst hv'
      rw [run_equalIn_array w D t e n m _ _ ha hs]
      obtain ⟨bs, hb1, hb2, hb3⟩ := eqCells_parts (List.replicate n m) xs ys b (by rw [sum_replicate]; exact hl) he
      rw [hb2]
      refine eqElems_run (by simpa using hb1) fun i j c hj hc => ?_
      have hin : i < n := by have := lt_of_some hj; simpa using this
      have hji : j = i := by rw [List.getElem?_range hin] at hj; simpa using hj.symm
      subst hji
      have hm : (List.replicate n m)[j]? = some m := by simp [hin]
      have hc3 := hb3 j m c hm hc
      have ht : ((List.replicate n m).take j).sum = j * m := by rw [List.take_replicate, sum_replicate, Nat.min_eq_left (by omega)]
      rw [ht] at hc3
      have hle : j * m + m ≤ n * m := by have := Nat.mul_le_mul_right m (show j + 1 ≤ n by omega); rw [Nat.succ_mul] at this; exact this
      have l1 : ((xs.drop (j * m)).take m).length = m := by simp; omega
      have l2 : ((ys.drop (j * m)).take m).length = m := by simp; omega
      obtain ⟨p, hp⟩ := hf.packed _ l1
      obtain ⟨q, hq⟩ := hf.packed _ l2
      exact ⟨p, q, run_part_flat hf hs xs (j * m) (by omega) hp w, run_part_flat hf hs ys (j * m) (by omega) hq w, flat_eq d e m hf _ _ p q c l1 hc3 hp hq D (by omega) w⟩
    | @struct _ _ _ fs ms ha hst hlen hA hB hn =>
      have hu' : u = .agg xs.toArray := by rcases hu with ⟨⟨_, h2⟩, _⟩ | ⟨_, h2⟩; (rw [ha] at h2; cases h2); exact h2
      have hv' : v = .agg ys.toArray := by rcases hv with ⟨⟨_, h2⟩, _⟩ | ⟨_, h2⟩; (rw [ha] at h2; cases h2); exact h2
      subst hu'; subst hv'
      have hfo : P.fieldsOf t = fs := by simp [Program.fieldsOf, ha]
      rw [run_equalIn_struct (P := P) w D t _ _ (by rw [hfo]; exact ha) hst, hfo]
      obtain ⟨bs, hb1, hb2, hb3⟩ := eqCells_parts ms xs ys b (by rw [hl, hn]) he
      rw [hb2]
      refine eqFields_run (by simp [hb1, hlen]) fun i f c hf hc => ?_
      have hil : i < ms.length := by have := lt_of_some hc; omega
      have hm : ms[i]? = some ms[i] := List.getElem?_eq_getElem hil
      have hf' : fs[i]? = some f := by simpa using hf
      obtain ⟨a1, a2, a4⟩ := hA i f _ hf' hm
      have a3 := hB i f _ hf' hm
      have hc3 := hb3 i _ c hm hc
      have hle := take_sum_le ms i _ hm
      rw [← a2] at hc3 hle
      have l1 : ((xs.drop f.offset).take ms[i]).length = ms[i] := by simp; omega
      have l2 : ((ys.drop f.offset).take ms[i]).length = ms[i] := by simp; omega
      obtain ⟨p, hp⟩ := a3.packed _ l1
      obtain ⟨q, hq⟩ := a3.packed _ l2
      exact ⟨a1, p, q, run_part_flat a3 a4 xs f.offset (by omega) hp w, run_part_flat a3 a4 ys f.offset (by omega) hq w, flat_eq d f.type _ a3 _ _ p q c l1 hc3 hp hq D (by omega) w⟩

end Go.Am
