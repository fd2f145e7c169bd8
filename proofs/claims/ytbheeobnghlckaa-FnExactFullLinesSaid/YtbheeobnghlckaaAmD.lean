/- The frame of all our walks: a region whose order is open, with makers and changers of memory that stand in no order. No condition. -/
import Derived.Test.YtbheeobnghlckaaAm16
set_option linter.unusedVariables false
set_option linter.unusedSimpArgs false
namespace Go.Am
open Go.RowKit

/-- of an operation: the numbers of the rows that it makes, changes, reads -/
structure Meta where
  mks : List Nat
  wr : List Nat
  rd : List Nat
def Meta.ws (m : Meta) : List Nat := m.mks ++ m.wr

/-! ### values that do not name some rows -/
def nmP (mk : List Nat) : Value → Bool
  | .pointer (some a) => a.spot.isNone && !mk.contains a.block
  | .slice (some a) _ _ => a.spot.isNone && !mk.contains a.block
  | _ => true
def nmS (mk : List Nat) : Value → Bool
  | .func _ first cap => first.toList.all (nmP mk) && cap.toList.all (nmP mk)
  | v => nmP mk v
def nmA (mk : List Nat) : Value → Bool
  | .agg cs => cs.toList.all (nmS mk)
  | v => nmS mk v
def nmV (mk : List Nat) : Value → Bool
  | .tuple vs => vs.toList.all (nmA mk)
  | v => nmA mk v
theorem mpP_fix {mk : List Nat} {σ : Nat → Nat} (hσ : ∀ i, i ∉ mk → σ i = i) {v : Value} (h : nmP mk v = true) : mpP (renId σ) v = v := by
  cases v with
  | pointer a => cases a with
    | none => rfl
    | some a =>
      obtain ⟨b, o, s⟩ := a
      simp only [nmP, Bool.and_eq_true, Option.isNone_iff_eq_none, Bool.not_eq_true', List.contains_eq_mem, decide_eq_false_iff_not] at h
      obtain ⟨rfl, h2⟩ := h
      simp [mpP, renId, hσ b h2]
  | slice a n c => cases a with
    | none => rfl
    | some a =>
      obtain ⟨b, o, s⟩ := a
      simp only [nmP, Bool.and_eq_true, Option.isNone_iff_eq_none, Bool.not_eq_true', List.contains_eq_mem, decide_eq_false_iff_not] at h
      obtain ⟨rfl, h2⟩ := h
      simp [mpP, renId, hσ b h2]
  | _ => rfl
theorem map_fix {f : Value → Value} {p : Value → Bool} (hf : ∀ v, p v = true → f v = v) {a : Array Value} (h : a.toList.all p = true) : a.map f = a := by
  conv => rhs; rw [← Array.map_id a]
  refine Array.map_congr_left fun x hx => ?_
  exact hf x (List.all_eq_true.1 h x (by simpa using hx))
theorem mpS_fix {mk : List Nat} {σ : Nat → Nat} (hσ : ∀ i, i ∉ mk → σ i = i) {v : Value} (h : nmS mk v = true) : mpS (renId σ) v = v := by
  cases v with
  | func fn first cap =>
    simp only [nmS, Bool.and_eq_true] at h
    simp only [mpS, map_fix (fun v hv => mpP_fix hσ hv) h.1, map_fix (fun v hv => mpP_fix hσ hv) h.2]
  | _ => exact mpP_fix hσ (by simpa only [nmS] using h)
theorem mpA_fix {mk : List Nat} {σ : Nat → Nat} (hσ : ∀ i, i ∉ mk → σ i = i) {v : Value} (h : nmA mk v = true) : mpA (renId σ) v = v := by
  cases v with
  | agg cs =>
    simp only [nmA] at h
    simp only [mpA, map_fix (fun v hv => mpS_fix hσ hv) h]
  | _ => exact mpS_fix hσ (by simpa only [nmA] using h)
theorem nmV_fix {mk : List Nat} {σ : Nat → Nat} (hσ : ∀ i, i ∉ mk → σ i = i) {v : Value} (h : nmV mk v = true) : mpV (renId σ) v = v := by
  cases v with
  | tuple cs =>
    simp only [nmV] at h
    simp only [mpV, map_fix (fun v hv => mpA_fix hσ hv) h]
  | _ => exact mpA_fix hσ (by simpa only [nmV] using h)
theorem nmP_mono {mk mk' : List Nat} (hs : ∀ i, i ∈ mk → i ∈ mk') {v : Value} (h : nmP mk' v = true) : nmP mk v = true := by
  cases v with
  | pointer a => cases a with
    | none => rfl
    | some a =>
      simp only [nmP, Bool.and_eq_true, Bool.not_eq_true', List.contains_eq_mem, decide_eq_false_iff_not] at h ⊢
      exact ⟨h.1, fun hm => h.2 (hs _ hm)⟩
  | slice a n c => cases a with
    | none => rfl
    | some a =>
      simp only [nmP, Bool.and_eq_true, Bool.not_eq_true', List.contains_eq_mem, decide_eq_false_iff_not] at h ⊢
      exact ⟨h.1, fun hm => h.2 (hs _ hm)⟩
  | _ => rfl
theorem all_mono {p q : Value → Bool} (h : ∀ v, q v = true → p v = true) {l : List Value} (hl : l.all q = true) : l.all p = true :=
  List.all_eq_true.2 fun x hx => h x (List.all_eq_true.1 hl x hx)
theorem nmS_mono {mk mk' : List Nat} (hs : ∀ i, i ∈ mk → i ∈ mk') {v : Value} (h : nmS mk' v = true) : nmS mk v = true := by
  cases v with
  | func fn first cap =>
    simp only [nmS, Bool.and_eq_true] at h ⊢
    exact ⟨all_mono (fun v hv => nmP_mono hs hv) h.1, all_mono (fun v hv => nmP_mono hs hv) h.2⟩
  | _ => simp only [nmS] at h ⊢; exact nmP_mono hs h
theorem nmA_mono {mk mk' : List Nat} (hs : ∀ i, i ∈ mk → i ∈ mk') {v : Value} (h : nmA mk' v = true) : nmA mk v = true := by
  cases v with
  | agg cs => exact all_mono (fun v hv => nmS_mono hs hv) (by simpa only [nmA] using h)
  | _ => simp only [nmA] at h ⊢; exact nmS_mono hs h
theorem nmV_mono {mk mk' : List Nat} (hs : ∀ i, i ∈ mk → i ∈ mk') {v : Value} (h : nmV mk' v = true) : nmV mk v = true := by
  cases v with
  | tuple cs => exact all_mono (fun v hv => nmA_mono hs hv) (by simpa only [nmV] using h)
  | _ => simp only [nmV] at h ⊢; exact nmA_mono hs h
def NMRow (mk : List Nat) (r : Row) : Prop := ∀ v ∈ r.cells, nmS mk v = true
theorem nmS_of_flat {mk : List Nat} {v : Value} (h : idsS v = []) : nmS mk v = true := by
  have hp : ∀ u : Value, idsP u = [] → nmP mk u = true := by
    intro u hu
    cases u with
    | pointer a => cases a <;> simp_all [nmP, idsP]
    | slice a n c => cases a <;> simp_all [nmP, idsP]
    | _ => rfl
  cases v with
  | func fn first cap =>
    simp only [idsS, List.flatMap_eq_nil_iff, List.mem_append] at h
    simp only [nmS, Bool.and_eq_true, List.all_eq_true]
    exact ⟨fun x hx => hp x (h x (Or.inl hx)), fun x hx => hp x (h x (Or.inr hx))⟩
  | _ => simp only [nmS]; exact hp _ (by simpa only [idsS] using h)
theorem nmF {mk : List Nat} {r : Row} (h : FlatRow r) : NMRow mk r := fun v hv => nmS_of_flat (h v hv).1
theorem nmX {mk : List Nat} {r : Row} (h : (r.cells.all (nmS mk)) = true) : NMRow mk r := fun v hv => List.all_eq_true.1 h v hv
theorem NMRow.ren {mk : List Nat} {r : Row} (h : NMRow mk r) {σ : Nat → Nat} (hσ : ∀ i, i ∉ mk → σ i = i) : renRow σ r = r := by
  unfold renRow
  have : r.cells.map (mpS (renId σ)) = r.cells := by
    conv => rhs; rw [← List.map_id r.cells]
    exact List.map_congr_left fun v hv => mpS_fix hσ (h v hv)
  rw [this]
theorem NMRow.mono {mk mk' : List Nat} {r : Row} (hs : ∀ i, i ∈ mk → i ∈ mk') (h : NMRow mk' r) : NMRow mk r := fun v hv => nmS_mono hs (h v hv)

/-! ### memory behind some of the operations -/
def patch (ws : List Nat) (H' G : Heap) : Heap := (List.range G.length).map fun i => if i ∈ ws then (H'[i]?).join else (G[i]?).join
theorem patch_length (ws : List Nat) (H' G : Heap) : (patch ws H' G).length = G.length := by simp [patch]
theorem patch_in {ws : List Nat} {H' G : Heap} {i : Nat} (h : i ∈ ws) (hl : H'.length = G.length) : (patch ws H' G)[i]? = H'[i]? := by
  unfold patch
  rw [List.getElem?_map]
  rcases Nat.lt_or_ge i G.length with hi | hi
  · rw [List.getElem?_range hi, Option.map_some, if_pos h, List.getElem?_eq_getElem (by omega)]
    rfl
  · rw [List.getElem?_eq_none (by simpa using hi), List.getElem?_eq_none (by omega)]; rfl
theorem patch_out {ws : List Nat} {H' G : Heap} {i : Nat} (h : i ∉ ws) : (patch ws H' G)[i]? = G[i]? := by
  unfold patch
  rw [List.getElem?_map]
  rcases Nat.lt_or_ge i G.length with hi | hi
  · rw [List.getElem?_range hi, Option.map_some, if_neg h, List.getElem?_eq_getElem hi]
    rfl
  · rw [List.getElem?_eq_none (by simpa using hi), List.getElem?_eq_none (by omega)]; rfl
def HS (ws : Nat → List Nat) (Hs : Nat → Heap) (p : Nat → Bool) : Nat → Heap
  | 0 => Hs 0
  | k + 1 => if p k = true then patch (ws k) (Hs (k + 1)) (HS ws Hs p k) else HS ws Hs p k
section
variable {ws : Nat → List Nat} {Hs : Nat → Heap} {p q : Nat → Bool} {n N : Nat}
theorem HS_len (h0 : (Hs 0).length = N) (p : Nat → Bool) : ∀ k, (HS ws Hs p k).length = N
  | 0 => h0
  | k + 1 => by
    unfold HS
    split
    · rw [patch_length, HS_len h0 p k]
    · exact HS_len h0 p k
theorem HS_congr (hN : ∀ k, k ≤ n → (Hs k).length = N) {i : Nat} : ∀ k, k ≤ n → (∀ j, j < k → i ∈ ws j → p j = q j) → (HS ws Hs p k)[i]? = (HS ws Hs q k)[i]?
  | 0, _, _ => rfl
  | k + 1, hk, h => by
    have ih := HS_congr hN k (by omega) fun j hj => h j (by omega)
    have hl : ∀ p : Nat → Bool, (Hs (k + 1)).length = (HS ws Hs p k).length := fun p => by rw [hN (k + 1) hk, HS_len (hN 0 (by omega)) p k]
    unfold HS
    by_cases hi : i ∈ ws k
    · rw [h k (by omega) hi]
      split
      · rw [patch_in hi (hl _), patch_in hi (hl _)]
      · exact ih
    · split
      · rw [patch_out hi]
        split
        · rw [patch_out hi]; exact ih
        · exact ih
      · split
        · rw [patch_out hi]; exact ih
        · exact ih
theorem HS_all (hN : ∀ k, k ≤ n → (Hs k).length = N) (hf : ∀ k, k < n → ∀ i, i ∉ ws k → (Hs (k + 1))[i]? = (Hs k)[i]?) (i : Nat) : ∀ k, k ≤ n → (HS ws Hs (fun _ => true) k)[i]? = (Hs k)[i]?
  | 0, _ => rfl
  | k + 1, hk => by
    have ih := HS_all hN hf i k (by omega)
    unfold HS
    rw [if_pos rfl]
    by_cases hi : i ∈ ws k
    · rw [patch_in hi (by rw [hN (k + 1) hk, HS_len (hN 0 (by omega)) _ k])]
    · rw [patch_out hi, ih, hf k (by omega) i hi]
theorem HS_upto {j : Nat} (i : Nat) : ∀ d, (HS ws Hs (fun k => decide (k < j)) (j + d))[i]? = (HS ws Hs (fun k => decide (k < j)) j)[i]?
  | 0 => rfl
  | d + 1 => by
    show (HS ws Hs (fun k => decide (k < j)) (j + d + 1))[i]? = _
    rw [HS, if_neg (by simp)]
    exact HS_upto i d
theorem HS_at (hN : ∀ k, k ≤ n → (Hs k).length = N) (hf : ∀ k, k < n → ∀ i, i ∉ ws k → (Hs (k + 1))[i]? = (Hs k)[i]?) {j : Nat} (hj : j ≤ n) (i : Nat) : (HS ws Hs (fun k => decide (k < j)) n)[i]? = (Hs j)[i]? := by
  obtain ⟨d, rfl⟩ : ∃ d, n = j + d := ⟨n - j, by omega⟩
  rw [HS_upto, ← HS_all hN hf i j hj]
  exact HS_congr (q := fun _ => true) hN j hj fun k hk _ => by simp [hk]
theorem HS_origin {i : Nat} {r : Row} : ∀ k, k ≤ n → (hN : ∀ k, k ≤ n → (Hs k).length = N) → (HS ws Hs p k)[i]? = some (some r) → (Hs 0)[i]? = some (some r) ∨ ∃ j, j < k ∧ p j = true ∧ i ∈ ws j ∧ (Hs (j + 1))[i]? = some (some r)
  | 0, _, _, h => Or.inl h
  | k + 1, hk, hN, h => by
    unfold HS at h
    split at h
    · rename_i hp
      by_cases hi : i ∈ ws k
      · rw [patch_in hi (by rw [hN (k + 1) hk, HS_len (hN 0 (by omega)) _ k])] at h
        exact Or.inr ⟨k, by omega, hp, hi, h⟩
      · rw [patch_out hi] at h
        rcases HS_origin k (by omega) hN h with h1 | ⟨j, h1, h2⟩
        · exact Or.inl h1
        · exact Or.inr ⟨j, by omega, h2⟩
    · rcases HS_origin k (by omega) hN h with h1 | ⟨j, h1, h2⟩
      · exact Or.inl h1
      · exact Or.inr ⟨j, by omega, h2⟩
end
theorem TD_origin {vs : Nat → Value} {p : Nat → Bool} : ∀ (l : List Oper) (k : Nat) (T : Tm) (t : Nat) (v : Value), (TD l k vs p T)[t]? = some (some v) → T[t]? = some (some v) ∨ ∃ i, i < l.length ∧ p (k + i) = true ∧ v = vs (k + i)
  | [], k, T, t, v, h => Or.inl h
  | o :: r, k, T, t, v, h => by
    rw [TD] at h
    rcases TD_origin r (k + 1) _ t v h with h1 | ⟨i, h1, h2, h3⟩
    · split at h1
      · rename_i hp
        cases hd : o.dst with
        | none => rw [hd] at h1; exact Or.inl h1
        | some d =>
          rw [hd] at h1
          by_cases hdt : d = t
          · subst hdt
            have hl := lt_of_some h1
            rw [length_putT] at hl
            rw [putT_self _ _ _ hl] at h1
            simp only [Option.some.injEq] at h1
            exact Or.inr ⟨0, by simp, by simpa using hp, h1.symm⟩
          · rw [putT_at _ _ _ _ (by simpa using hdt)] at h1
            exact Or.inl h1
      · exact Or.inl h1
    · exact Or.inr ⟨i + 1, by simp; omega, by rw [← h2]; congr 1; omega, by rw [h3]; congr 1; omega⟩

/-! ### one step -/
def LDoes {P : Program} (C : Ctx P) (N : Nat) (m : Meta) (T' : Tm) (G : Heap) (op : Op) (v : Value) (H' : Heap) : Prop :=
  ∃ (v1 : Value) (G1 : Heap) (σ : Nat → Nat), Does C T' G op v1 G1 ∧ (∀ i, i ∉ m.mks → σ i = i) ∧ v1 = mpV (renId σ) v ∧ (∀ i, i ∉ m.ws → i < N → G1[i]? = G[i]?) ∧
    (∀ i r, i ∈ m.ws → H'[i]? = some (some r) → G1[σ i]? = some (some (renRow σ r))) ∧ (∀ i j, i < N → j < N → σ i = σ j → i = j)
def StepW {P : Program} (C : Ctx P) (N : Nat) (m : Meta) (T : Tm) (H : Heap) (op : Op) (v : Value) (H' : Heap) : Prop :=
  H'.length = N ∧ (∀ i, i ∉ m.ws → H'[i]? = H[i]?) ∧ (∀ i ∈ idsV v, i < N) ∧ (∀ i r, i ∈ m.ws → H'[i]? = some (some r) → ∀ v ∈ r.cells, ∀ k ∈ idsS v, k < N) ∧
    ∀ T' G, (∀ x ∈ op.operands, evalO T x = evalO T' x) → G.length = N → (∀ i, i ∈ m.ws ++ m.rd → G[i]? = H[i]?) → LDoes C N m T' G op v H'

def clash (m m' : Meta) : Bool := (m.ws.any fun i => m'.ws.contains i || m'.rd.contains i) || m.rd.any fun i => m'.ws.contains i
def conflict2 (ops : Array Oper) (x y : Oper) (m m' : Meta) : Bool :=
  (match x.dst with
    | some d => (y.looksAt ops).contains d || y.dst == some d
    | none => false) ||
  (match y.dst with
    | some d => (x.looksAt ops).contains d
    | none => false) || clash m m'
def regionOK2 (ops : Array Oper) (ms : List Meta) : Bool :=
  (List.range ops.size).all fun j => match ops[j]? with
    | none => false
    | some oj => (oj.after.all fun e => !Region.binds .any e || decide (e.on < j)) && (List.range j).all fun i => match ops[i]? with
      | some oi => reach (masksGo ops.toList []) i j || !conflict2 ops oi oj (ms.getD i ⟨[], [], []⟩) (ms.getD j ⟨[], [], []⟩)
      | none => false
/-- the rows that others make, and that j may not name -/
def hid (ops : Array Oper) (ms : List Meta) (j : Nat) : List Nat := (List.range ops.size).flatMap fun k => if k = j ∨ reach (masksGo ops.toList []) k j = true then [] else (ms.getD k ⟨[], [], []⟩).mks

structure DRun2 {P : Program} (C : Ctx P) (ops : Array Oper) (ms : List Meta) (N n0 : Nat) (T0 : Tm) (vs : Nat → Value) (Hs : Nat → Heap) : Prop where
  ok : regionOK2 ops ms = true
  low : ∀ k, k < ops.size → ∀ i ∈ (ms.getD k ⟨[], [], []⟩).mks, n0 ≤ i
  len : ∀ k, k ≤ ops.size → (Hs k).length = N
  step : ∀ i o, ops[i]? = some o → ∃ b, want? (TD ops.toList 0 vs (fun k => decide (k < i)) T0) ops o = some b ∧
    (b = true → StepW C N (ms.getD i ⟨[], [], []⟩) (TD ops.toList 0 vs (fun k => decide (k < i)) T0) (Hs i) o.op (vs i) (Hs (i + 1)) ∧ nmV (hid ops ms i) (vs i) = true ∧ ∀ j r, j ∈ (ms.getD i ⟨[], [], []⟩).ws → (Hs (i + 1))[j]? = some (some r) → NMRow (hid ops ms i) r) ∧
    (b = false → vs i = undef ∧ Hs (i + 1) = Hs i)
  nmT : ∀ k, k < ops.size → ∀ (t : Nat) (v : Value), T0[t]? = some (some v) → nmV (ms.getD k ⟨[], [], []⟩).mks v = true
  nmH : ∀ k, k < ops.size → ∀ (i : Nat) (r : Row), (Hs 0)[i]? = some (some r) → NMRow (ms.getD k ⟨[], [], []⟩).mks r

section
variable {P : Program} {C : Ctx P} {ops : Array Oper} {ms : List Meta} {N n0 : Nat} {T0 : Tm} {vs : Nat → Value} {Hs : Nat → Heap}
theorem DRun2.edge (h : DRun2 C ops ms N n0 T0 vs Hs) {j : Nat} {o : Oper} (ho : ops[j]? = some o) : ∀ e ∈ o.after, Region.binds .any e = true → e.on < j := by
  have hlt : j < ops.size := (Array.getElem?_eq_some_iff.1 ho).1
  have := h.ok
  simp only [regionOK2, List.all_eq_true, List.mem_range] at this
  have := this j hlt
  rw [ho] at this
  simp only [Bool.and_eq_true] at this
  intro e he hb
  have := Array.all_eq_true_iff_forall_mem.1 this.1 e he
  simpa [hb] using this
theorem DRun2.pair (h : DRun2 C ops ms N n0 T0 vs Hs) {i j : Nat} {oi oj : Oper} (hi : ops[i]? = some oi) (hj : ops[j]? = some oj) (hij : i < j) (hc : conflict2 ops oi oj (ms.getD i ⟨[], [], []⟩) (ms.getD j ⟨[], [], []⟩) = true) : reach (masksGo ops.toList []) i j = true := by
  have hlt : j < ops.size := (Array.getElem?_eq_some_iff.1 hj).1
  have := h.ok
  simp only [regionOK2, List.all_eq_true, List.mem_range] at this
  have := this j hlt
  rw [hj] at this
  simp only [Bool.and_eq_true, List.all_eq_true, List.mem_range] at this
  have := this.2 i hij
  rw [hi] at this
  rw [Bool.or_eq_true] at this
  rcases this with h1 | h1
  · exact h1
  · rw [hc] at h1; cases h1
theorem DRun2.frame (h : DRun2 C ops ms N n0 T0 vs Hs) {k : Nat} (hk : k < ops.size) (i : Nat) (hi : i ∉ (ms.getD k ⟨[], [], []⟩).ws) : (Hs (k + 1))[i]? = (Hs k)[i]? := by
  obtain ⟨b, _, h1, h2⟩ := h.step k ops[k] (Array.getElem?_eq_getElem hk)
  cases b with
  | false => rw [(h2 rfl).2]
  | true => exact (h1 rfl).1.2.1 i hi
end
theorem clash_of {m m' : Meta} {i : Nat} (h : (i ∈ m.ws ∧ (i ∈ m'.ws ∨ i ∈ m'.rd)) ∨ (i ∈ m.rd ∧ i ∈ m'.ws)) : clash m m' = true := by
  unfold clash
  rw [Bool.or_eq_true, List.any_eq_true, List.any_eq_true]
  rcases h with ⟨h1, h2⟩ | ⟨h1, h2⟩
  · left; refine ⟨i, h1, ?_⟩; simpa using h2
  · right; exact ⟨i, h1, by simpa using h2⟩

structure DInv2 {P : Program} (C : Ctx P) (ops : Array Oper) (ms : List Meta) (N : Nat) (T0 : Tm) (vs : Nat → Value) (Hs : Nat → Heap) (ρ0 : Ren) (H0 : Heap) (w0 : World) (listed : Array Bool) (ρ : Ren) (a : Act) (w : World) : Prop where
  size : listed.size = ops.size
  cl : ∀ (j : Nat) (o : Oper), ops[j]? = some o → Lst listed j → ∀ e ∈ o.after, Region.binds .any e = true → Lst listed e.on
  adv : Adv P ρ0 H0 w0 ρ (HS (fun k => (ms.getD k ⟨[], [], []⟩).ws) Hs (fun k => listed.getD k false) ops.size) w
  rt : RT ρ N (TD ops.toList 0 vs (fun k => listed.getD k false) T0) a
  df : a.defers = []

theorem DInv2.go {P : Program} {C : Ctx P} {ops : Array Oper} {ms : List Meta} {N : Nat} {T0 : Tm} {vs : Nat → Value} {Hs : Nat → Heap} {ρ0 : Ren} {H0 : Heap} {w0 : World} (dr : DRun2 C ops ms N H0.length T0 vs Hs) {listed : Array Bool} {ρ : Ren} {a : Act} {w : World}
    (h : DInv2 C ops ms N T0 vs Hs ρ0 H0 w0 listed ρ a w) {j : Nat} (hj : j ∈ Region.ready .any ops listed) {K : Act → World → Prop} {Q : Exit → Act → World → Prop}
    (hK : ∀ ρ' a' w', DInv2 C ops ms N T0 vs Hs ρ0 H0 w0 (listed.setIfInBounds j true) ρ' a' w' → K a' w') : wpOp P ops Q j K a w := by
  obtain ⟨hun, o, ho, hall⟩ := mem_ready.1 hj
  have hjlt : j < ops.size := (Array.getElem?_eq_some_iff.1 ho).1
  have hjl : j < listed.size := by rw [h.size]; exact hjlt
  have hnl : ¬ Lst listed j := by
    unfold Lst
    simp only [Array.getD_eq_getD_getElem?, Array.getElem?_eq_getElem hjl, Option.getD_some] at hun ⊢
    simp [hun]
  have hed : ∀ e ∈ o.after, Region.binds .any e = true → Lst listed e.on := hall
  let W : Nat → List Nat := fun k => (ms.getD k ⟨[], [], []⟩).ws
  have before : ∀ i oi, ops[i]? = some oi → i < j → conflict2 ops oi o (ms.getD i ⟨[], [], []⟩) (ms.getD j ⟨[], [], []⟩) = true → Lst listed i := fun i oi hi hij hc =>
    reach_spec (D := Lst listed) h.cl j i o ho hed (dr.pair hi ho hij hc)
  have noreach : ∀ i, Lst listed i → i < ops.size → ¬ reach (masksGo ops.toList []) j i = true := fun i hl hi hr =>
    hnl (reach_spec (D := Lst listed) h.cl i j ops[i] (Array.getElem?_eq_getElem hi) (h.cl i ops[i] (Array.getElem?_eq_getElem hi) hl) hr)
  have behind : ∀ i oi, ops[i]? = some oi → j < i → conflict2 ops o oi (ms.getD j ⟨[], [], []⟩) (ms.getD i ⟨[], [], []⟩) = true → ¬ Lst listed i := fun i oi hi hij hc hl =>
    noreach i hl (Array.getElem?_eq_some_iff.1 hi).1 (dr.pair ho hi hij hc)
  have decl : ∀ i, (listed.getD i false = decide (i < j)) ↔ (Lst listed i ↔ i < j) := fun i => by
    unfold Lst
    cases listed.getD i false <;> simp
  have slot : ∀ t ∈ o.looksAt ops, (TD ops.toList 0 vs (fun k => listed.getD k false) T0)[t]? = (TD ops.toList 0 vs (fun k => decide (k < j)) T0)[t]? := by
    intro t ht
    refine TD_same _ _ _ _ _ _ _ t rfl rfl fun i oi hi hd => ?_
    have hi' : ops[i]? = some oi := by simpa using hi
    rw [Nat.zero_add]
    rw [decl]
    rcases Nat.lt_trichotomy i j with hlt | rfl | hgt
    · exact ⟨fun _ => hlt, fun _ => before i oi hi' hlt (by simp only [conflict2, hd]; simp [ht])⟩
    · exact ⟨fun hl => absurd hl hnl, fun h => absurd h (by omega)⟩
    · exact ⟨fun hl => absurd hl (behind i oi hi' hgt (by simp only [conflict2, hd]; simp [ht])), fun h => absurd h (by omega)⟩
  -- a row that j makes, changes or reads is changed by others in the text's order
  have rowAt : ∀ i, i ∈ W j ++ (ms.getD j ⟨[], [], []⟩).rd → ∀ k, k < ops.size → k ≠ j → i ∈ W k → listed.getD k false = decide (k < j) := by
    intro i hi k hk hkj hik
    rw [decl]
    have hok : ops[k]? = some ops[k] := Array.getElem?_eq_getElem hk
    rcases Nat.lt_trichotomy k j with hlt | rfl | hgt
    · refine ⟨fun _ => hlt, fun _ => before k _ hok hlt ?_⟩
      unfold conflict2
      rw [Bool.or_eq_true]
      exact Or.inr (clash_of (i := i) (Or.inl ⟨hik, List.mem_append.1 hi⟩))
    · exact absurd rfl hkj
    · refine ⟨fun hl => absurd hl (behind k _ hok hgt ?_), fun h => absurd h (by omega)⟩
      unfold conflict2
      rw [Bool.or_eq_true]
      refine Or.inr (clash_of (i := i) ?_)
      rcases List.mem_append.1 hi with h1 | h1
      · exact Or.inl ⟨h1, Or.inl hik⟩
      · exact Or.inr ⟨h1, hik⟩
  have hfr : ∀ k, k < ops.size → ∀ i, i ∉ W k → (Hs (k + 1))[i]? = (Hs k)[i]? := fun k hk i hi => dr.frame hk i hi
  have h0N : (Hs 0).length = N := dr.len 0 (by omega)
  have hGlen : (HS W Hs (fun k => listed.getD k false) ops.size).length = N := HS_len h0N _ _
  have agree : ∀ i, i ∈ W j ++ (ms.getD j ⟨[], [], []⟩).rd → (HS W Hs (fun k => listed.getD k false) ops.size)[i]? = (Hs j)[i]? := by
    intro i hi
    rw [← HS_at (n := ops.size) dr.len hfr (by omega : j ≤ ops.size) i]
    refine HS_congr dr.len ops.size (Nat.le_refl _) fun k hk hik => ?_
    by_cases hkj : k = j
    · subst hkj
      have : listed.getD k false = false := by
        unfold Lst at hnl
        simpa using hnl
      rw [this]
      simp
    · exact rowAt i hi k hk hkj hik
  obtain ⟨b, hb, hb1, hb2⟩ := dr.step j o ho
  have hwant : want? (TD ops.toList 0 vs (fun k => listed.getD k false) T0) ops o = some b := by rw [want_congr slot]; exact hb
  have hwreal := want_sound h.rt hwant
  have getset : ∀ k, k ≠ j → (listed.setIfInBounds j true).getD k false = listed.getD k false := fun k hk => by
    simp only [Array.getD_eq_getD_getElem?]
    rw [Array.getElem?_setIfInBounds_ne (Ne.symm hk)]
  have getself : (listed.setIfInBounds j true).getD j false = true := by simp [hjl]
  -- the slots behind j
  have after_ : ∀ {ρ' : Ren} {a' : Act}, RT ρ' N (TD ops.toList 0 vs (fun k => listed.getD k false) T0) a' → (∀ i ∈ idsV (vs j), i < N) →
      RT ρ' N (TD ops.toList 0 vs (fun k => (listed.setIfInBounds j true).getD k false) T0) (a'.put o.dst (mapV ρ' (vs j))) := by
    intro ρ' a' hrt hv
    have hp := hrt.put o.dst hv
    have key : ∀ t : Nat, (TD ops.toList 0 vs (fun k => (listed.setIfInBounds j true).getD k false) T0)[t]? = (putT (TD ops.toList 0 vs (fun k => listed.getD k false) T0) o.dst (vs j))[t]? := by
      intro t
      by_cases hd : o.dst = some t
      · rw [hd]
        rcases Nat.lt_or_ge t T0.length with hlt | hge
        · rw [putT_self _ _ _ (by rw [TD_length]; exact hlt)]
          have := TD_last ops.toList 0 vs (fun k => (listed.setIfInBounds j true).getD k false) T0 t j o (by simpa using ho) hd (by simp [hjl]) hlt fun i oi hi hdi hij => by
            have hi' : ops[i]? = some oi := by simpa using hi
            have hnot := behind i oi hi' hij (by simp [conflict2, hd, hdi])
            rw [Nat.zero_add]
            have h1 : ¬ Lst (listed.setIfInBounds j true) i := by
              rw [lst_set hjl]
              rintro (h | h)
              · exact hnot h
              · omega
            unfold Lst at h1
            simpa using h1
          rw [Nat.zero_add] at this
          exact this
        · rw [List.getElem?_eq_none (by rw [TD_length]; exact hge), List.getElem?_eq_none (by rw [length_putT, TD_length]; exact hge)]
      · rw [putT_at _ _ _ _ hd]
        refine TD_same _ _ _ _ _ _ _ t rfl rfl fun i oi hi hdi => ?_
        have hne : i ≠ j := by
          rintro rfl
          have hi' : ops[i]? = some oi := by simpa using hi
          rw [ho] at hi'
          cases hi'
          exact hd hdi
        rw [Nat.zero_add, getset i hne]
    refine ⟨?_, fun t v hv' => ?_, fun t v hv' => ?_⟩
    · rw [hp.size, length_putT, TD_length, TD_length]
    · rw [key] at hv'; exact hp.at_ t v hv'
    · rw [key] at hv'; exact hp.cl t v hv'
  have hcl' : ∀ (k : Nat) (ok : Oper), ops[k]? = some ok → Lst (listed.setIfInBounds j true) k → ∀ e ∈ ok.after, Region.binds .any e = true → Lst (listed.setIfInBounds j true) e.on := by
    intro k ok hk hl e he hbn
    rw [lst_set hjl] at hl ⊢
    rcases hl with hl | rfl
    · exact Or.inl (h.cl k ok hk hl e he hbn)
    · rw [ho] at hk; cases hk
      exact Or.inl (hed e he hbn)
  have hsz' : (listed.setIfInBounds j true).size = ops.size := by simp [h.size]
  -- memory behind j
  have mem' : HS W Hs (fun k => (listed.setIfInBounds j true).getD k false) ops.size = patch (W j) (Hs (j + 1)) (HS W Hs (fun k => listed.getD k false) ops.size) := by
    apply List.ext_getElem?
    intro i
    by_cases hi : i ∈ W j
    · rw [patch_in hi (by rw [dr.len (j + 1) (by omega), hGlen]), ← HS_at (n := ops.size) dr.len hfr (by omega : j + 1 ≤ ops.size) i]
      refine HS_congr dr.len ops.size (Nat.le_refl _) fun k hk hik => ?_
      by_cases hkj : k = j
      · subst hkj; rw [getself]; simp
      · rw [getset k hkj, rowAt i (List.mem_append_left _ hi) k hk hkj hik]
        simp only [decide_eq_decide]
        omega
    · rw [patch_out hi]
      refine HS_congr dr.len ops.size (Nat.le_refl _) fun k hk hik => ?_
      by_cases hkj : k = j
      · subst hkj; exact absurd hik hi
      · exact getset k hkj
  unfold wpOp
  rw [ho]
  simp only
  rw [hwreal]
  cases b with
  | false =>
    rw [if_neg (by simp)]
    obtain ⟨hv, hs⟩ := hb2 rfl
    have hu : ∀ ρ : Ren, mapV ρ (vs j) = undef := fun ρ => by rw [hv]; simp [undef, mapV, mpV]
    have := after_ (ρ' := ρ) (a' := a) h.rt (by rw [hv]; simp [undef, idsV])
    rw [hu] at this
    refine hK ρ _ w ⟨hsz', hcl', ?_, this, by rw [put_defers]; exact h.df⟩
    have e : HS W Hs (fun k => (listed.setIfInBounds j true).getD k false) ops.size = HS W Hs (fun k => listed.getD k false) ops.size := by
      rw [mem']
      apply List.ext_getElem?
      intro i
      by_cases hi : i ∈ W j
      · rw [patch_in hi (by rw [dr.len (j + 1) (by omega), hGlen]), hs, agree i (List.mem_append_left _ hi)]
      · rw [patch_out hi]
    show Adv P ρ0 H0 w0 ρ (HS W Hs (fun k => (listed.setIfInBounds j true).getD k false) ops.size) w
    rw [e]
    exact h.adv
  | true =>
    rw [if_pos rfl]
    obtain ⟨⟨hl', hfrj, hvN, hcells, hany⟩, hnv, hnr⟩ := hb1 rfl
    have ocg := operand_congr slot
    -- nobody names what j makes
    have hidmk : ∀ k, k < ops.size → Lst listed k → ∀ i, i ∈ (ms.getD j ⟨[], [], []⟩).mks → i ∈ hid ops ms k := fun k hk hl i hi => by
      unfold hid
      refine List.mem_flatMap.2 ⟨j, List.mem_range.2 hjlt, ?_⟩
      rw [if_neg]
      · exact hi
      · rintro (rfl | hr)
        · exact hnl hl
        · exact noreach k hl hk hr
    have lstd : ∀ k, listed.getD k false = true → Lst listed k := fun k hk => hk
    have nmG : ∀ (i : Nat) (r : Row), (HS W Hs (fun k => listed.getD k false) ops.size)[i]? = some (some r) → NMRow (ms.getD j ⟨[], [], []⟩).mks r := by
      intro i r hi
      rcases HS_origin ops.size (Nat.le_refl _) dr.len hi with h1 | ⟨k, hk, hp, hik, h1⟩
      · exact dr.nmH j hjlt i r h1
      · obtain ⟨b2, _, h2, h3⟩ := dr.step k ops[k] (Array.getElem?_eq_getElem hk)
        cases b2 with
        | true => exact ((h2 rfl).2.2 i r hik h1).mono (hidmk k hk (lstd k hp))
        | false =>
          -- an operation that is not wanted changes nothing: look further back
          have key : ∀ d k, k ≤ d → k < ops.size → Lst listed k → i ∈ W k → (Hs (k + 1))[i]? = some (some r) → NMRow (ms.getD j ⟨[], [], []⟩).mks r := by
            have up : ∀ k, k ≤ ops.size → (Hs k)[i]? = some (some r) → (Hs 0)[i]? = some (some r) ∨ ∃ q, q < k ∧ i ∈ W q ∧ (Hs (q + 1))[i]? = some (some r) ∧ (Hs q)[i]? ≠ some (some r) := by
              intro k
              induction k with
              | zero => intro _ h; exact Or.inl h
              | succ k ih =>
                intro hk h
                by_cases hh : (Hs k)[i]? = some (some r)
                · rcases ih (by omega) hh with h1 | ⟨q, h1, h2⟩
                  · exact Or.inl h1
                  · exact Or.inr ⟨q, by omega, h2⟩
                · refine Or.inr ⟨k, by omega, ?_, h, hh⟩
                  refine Classical.byContradiction fun hn => hh ?_
                  rw [← hfr k (by omega) i hn]; exact h
            intro d k hd hk hl hik hat
            rcases up (k + 1) (by omega) hat with h0 | ⟨q, hq, hiq, hq1, hq2⟩
            · exact dr.nmH j hjlt i r h0
            · obtain ⟨b3, _, h4, h5⟩ := dr.step q ops[q] (Array.getElem?_eq_getElem (by omega))
              cases b3 with
              | false => rw [(h5 rfl).2] at hq1; exact absurd hq1 hq2
              | true =>
                refine ((h4 rfl).2.2 i r hiq hq1).mono (hidmk q (by omega) ?_)
                rcases Nat.lt_or_ge q k with hqk | hqk
                · -- q stands before k, since both change the row
                  have hrq := dr.pair (i := q) (j := k) (Array.getElem?_eq_getElem (by omega)) (Array.getElem?_eq_getElem hk) hqk (by
                    unfold conflict2
                    rw [Bool.or_eq_true]
                    exact Or.inr (clash_of (i := i) (Or.inl ⟨hiq, Or.inl hik⟩)))
                  exact reach_spec (D := Lst listed) h.cl k q ops[k] (Array.getElem?_eq_getElem hk) (h.cl k ops[k] (Array.getElem?_eq_getElem hk) hl) hrq
                · have : q = k := by omega
                  subst this; exact hl
          exact key k k (Nat.le_refl _) hk (lstd k hp) hik h1
    have nmTT : ∀ (t : Nat) (u : Value), (TD ops.toList 0 vs (fun k => listed.getD k false) T0)[t]? = some (some u) → nmV (ms.getD j ⟨[], [], []⟩).mks u = true := by
      intro t u hu
      rcases TD_origin ops.toList 0 T0 t u hu with h1 | ⟨k, hk, hp, rfl⟩
      · exact dr.nmT j hjlt t u h1
      · rw [Nat.zero_add] at hp ⊢
        have hk' : k < ops.size := by simpa using hk
        obtain ⟨b2, _, h2, h3⟩ := dr.step k ops[k] (Array.getElem?_eq_getElem hk')
        cases b2 with
        | true => exact nmV_mono (hidmk k hk' (lstd k hp)) (h2 rfl).2.1
        | false => rw [(h3 rfl).1]; rfl
    obtain ⟨v1, G1, σ, hdoes, hσ, hv1, hG1, hnew, hinj⟩ := hany (TD ops.toList 0 vs (fun k => listed.getD k false) T0) _ (fun x hx => (ocg x hx).symm) hGlen agree
    have hrtG : RT ρ (HS W Hs (fun k => listed.getD k false) ops.size).length (TD ops.toList 0 vs (fun k => listed.getD k false) T0) a := by rw [hGlen]; exact h.rt
    refine Or.inl (does_sound h.adv.rep hrtG hdoes fun ρ1 w1 ad hv => ?_)
    have hlow : ∀ i, i < H0.length → σ i = i := fun i hi => hσ i fun hm => by
      have := dr.low j hjlt i hm
      omega
    have hlenP : (patch (W j) (Hs (j + 1)) (HS W Hs (fun k => listed.getD k false) ops.size)).length = N := by rw [patch_length, hGlen]
    have hren : RenOK H0.length G1 σ (patch (W j) (Hs (j + 1)) (HS W Hs (fun k => listed.getD k false) ops.size)) := by
      refine ⟨hlow, by rw [hlenP, ← hGlen]; exact h.adv.len, fun i r hi => ?_, fun i q r s hi hq hiq => hinj i q (by have := lt_of_some hi; omega) (by have := lt_of_some hq; omega) hiq, fun i r hi v hv k hk => ?_⟩
      · by_cases hiW : i ∈ W j
        · rw [patch_in hiW (by rw [hl', hGlen])] at hi
          exact hnew i r hiW hi
        · rw [patch_out hiW] at hi
          have hmk : i ∉ (ms.getD j ⟨[], [], []⟩).mks := fun hm => hiW (List.mem_append_left _ hm)
          rw [hσ i hmk, hG1 i hiW (by have := lt_of_some hi; omega), (nmG i r hi).ren hσ]
          exact hi
      · rw [hlenP]
        by_cases hiW : i ∈ W j
        · rw [patch_in hiW (by rw [hl', hGlen])] at hi
          exact hcells i r hiW hi v hv k hk
        · rw [patch_out hiW] at hi
          have h2 : k < N := Nat.lt_of_lt_of_eq (h.adv.rep.cl i r hi v hv k hk) hGlen
          exact h2
    have hadv := adv_ren (h.adv.trans ad) hren
    have hput : (a.put o.dst (mapV ρ1 v1)) = a.put o.dst (mapV (fun i => ρ1 (σ i)) (vs j)) := by
      rw [hv1, mapV, mapV, mpV_ren]
    rw [hput]
    refine hK (fun i => ρ1 (σ i)) _ w1 ⟨hsz', hcl', ?_, after_ ⟨h.rt.size, fun t u hu => ?_, h.rt.cl⟩ hvN, by rw [put_defers]; exact h.df⟩
    · show Adv P ρ0 H0 w0 _ (HS W Hs (fun k => (listed.setIfInBounds j true).getD k false) ops.size) w1
      rw [mem']; exact hadv
    · rw [h.rt.at_ t u hu]
      have e1 : mapV (fun i => ρ1 (σ i)) u = mapV ρ1 u := by
        rw [mapV, mapV, ← mpV_ren, nmV_fix hσ (nmTT t u hu)]
      rw [e1]
      congr 1
      exact (mapV_agree (ρ := ρ) (ρ' := ρ1) fun i hi => ad.agree i (by rw [hGlen]; exact h.rt.cl t u hu i hi)).symm

theorem draw_any2 {P : Program} {C : Ctx P} {ops : Array Oper} {ms : List Meta} {N : Nat} {T0 : Tm} {vs : Nat → Value} {Hs : Nat → Heap} {ρ0 : Ren} {H0 : Heap} {w0 : World} {Q : Exit → Act → World → Prop} (dr : DRun2 C ops ms N H0.length T0 vs Hs)
    (hQ : ∀ ρ a w, Inv P ρ0 H0 w0 ρ (TD ops.toList 0 vs (fun k => decide (k < ops.toList.length)) T0) (Hs ops.toList.length) a w → Q .normal a w) :
    ∀ (fuel : Nat) (listed : Array Bool) (ρ : Ren) (a : Act) (w : World), listed.toList.count false = fuel → DInv2 C ops ms N T0 vs Hs ρ0 H0 w0 listed ρ a w → wpAny P .any ops Q fuel listed a w := by
  have fin : ∀ (listed : Array Bool) (ρ : Ren) (a : Act) (w : World), DInv2 C ops ms N T0 vs Hs ρ0 H0 w0 listed ρ a w → Region.ready .any ops listed = [] → Q .normal a w := by
    intro listed ρ a w h hr
    have all : ∀ i, i < ops.size → Lst listed i := by
      intro i
      induction i using Nat.strongRecOn with
      | _ i ih =>
        intro hi
        have ho : ops[i]? = some ops[i] := Array.getElem?_eq_getElem hi
        have hil : i < listed.size := by rw [h.size]; exact hi
        by_cases hl : Lst listed i
        · exact hl
        · exfalso
          have : i ∈ Region.ready .any ops listed := mem_ready.2 ⟨by
            unfold Lst at hl
            simp only [Array.getD_eq_getD_getElem?, Array.getElem?_eq_getElem hil, Option.getD_some] at hl ⊢
            simpa using hl, _, ho, fun e he hb => ih e.on (dr.edge ho e he hb) (Nat.lt_trans (dr.edge ho e he hb) hi)⟩
          rw [hr] at this
          cases this
    have hT : ∀ t : Nat, (TD ops.toList 0 vs (fun k => decide (k < ops.toList.length)) T0)[t]? = (TD ops.toList 0 vs (fun k => listed.getD k false) T0)[t]? := fun t =>
      TD_same _ _ _ _ _ _ _ t rfl rfl fun i o hi _ => by
        have hlt : i < ops.toList.length := lt_of_some hi
        have := all i (by simpa using hlt)
        unfold Lst at this
        rw [Nat.zero_add, this]
        simpa using hlt
    have hH : HS (fun k => (ms.getD k ⟨[], [], []⟩).ws) Hs (fun k => listed.getD k false) ops.size = Hs ops.toList.length := by
      rw [Array.length_toList]
      apply List.ext_getElem?
      intro i
      rw [← HS_all (n := ops.size) dr.len (fun k hk i hi => dr.frame hk i hi) i ops.size (Nat.le_refl _)]
      exact HS_congr dr.len ops.size (Nat.le_refl _) fun k hk _ => all k hk
    have hNl : (Hs ops.toList.length).length = N := dr.len _ (by simp)
    refine hQ ρ a w ⟨by rw [← hH]; exact h.adv, ⟨?_, fun t v hv => ?_, fun t v hv => ?_⟩, h.df⟩
    · rw [h.rt.size, TD_length, TD_length]
    · rw [hT] at hv; exact h.rt.at_ t v hv
    · rw [hT] at hv; rw [hNl]; exact h.rt.cl t v hv
  intro fuel
  induction fuel with
  | zero =>
    intro listed ρ a w hc h
    have hr : Region.ready .any ops listed = [] := by
      cases hrr : Region.ready .any ops listed with
      | nil => rfl
      | cons j js =>
        have hj : j ∈ Region.ready .any ops listed := by rw [hrr]; simp
        obtain ⟨hun, o, ho, hall⟩ := mem_ready.1 hj
        have hjl : j < listed.size := by rw [h.size]; exact (Array.getElem?_eq_some_iff.1 ho).1
        have : false ∈ listed.toList := by
          refine List.mem_of_getElem? (i := j) ?_
          simp only [Array.getD_eq_getD_getElem?, Array.getElem?_eq_getElem hjl, Option.getD_some] at hun
          simp [hjl, hun]
        have := List.count_pos_iff.2 this
        omega
    exact ⟨hr, fin listed ρ a w h hr⟩
  | succ fuel ih =>
    intro listed ρ a w hc h
    refine ⟨fin listed ρ a w h, fun j hj => ?_⟩
    obtain ⟨hun, o, ho, hall⟩ := mem_ready.1 hj
    have hjl : j < listed.size := by rw [h.size]; exact (Array.getElem?_eq_some_iff.1 ho).1
    refine h.go dr hj fun ρ' a' w' h' => ih _ ρ' a' w' ?_ h'
    have := count_set (l := listed.toList) (i := j) (by
      simp only [Array.getD_eq_getD_getElem?, Array.getElem?_eq_getElem hjl, Option.getD_some] at hun
      simp [hjl, hun])
    simp only [Array.toList_setIfInBounds]
    omega

/-! ### the text's order, step by step -/
def sOpsW {P : Program} (C : Ctx P) (ops : Array Oper) (ms : List Meta) (N : Nat) : List Oper → Nat → Tm → Heap → (Tm → Heap → Prop) → Prop
  | [], _, T, H, K => K T H
  | o :: rest, i, T, H, K =>
    match want? T ops o with
    | none => False
    | some b => (b = true → ∃ v H', (StepW C N (ms.getD i ⟨[], [], []⟩) T H o.op v H' ∧ nmV (hid ops ms i) v = true ∧ ∀ j r, j ∈ (ms.getD i ⟨[], [], []⟩).ws → H'[j]? = some (some r) → NMRow (hid ops ms i) r) ∧ sOpsW C ops ms N rest (i + 1) (putT T o.dst v) H' K) ∧
      (b = false → sOpsW C ops ms N rest (i + 1) (putT T o.dst undef) H K)

def RunOf2 {P : Program} (C : Ctx P) (ops : Array Oper) (ms : List Meta) (N : Nat) (K : Tm → Heap → Prop) (l : List Oper) (q : Nat) (T : Tm) (H : Heap) : Prop :=
    ∃ (vs : Nat → Value) (Hs : Nat → Heap), Hs 0 = H ∧ (∀ i, i ≤ l.length → (Hs i).length = N) ∧ (∀ i o, l[i]? = some o → ∃ b, want? (TD l 0 vs (fun k => decide (k < i)) T) ops o = some b ∧
      (b = true → StepW C N (ms.getD (q + i) ⟨[], [], []⟩) (TD l 0 vs (fun k => decide (k < i)) T) (Hs i) o.op (vs i) (Hs (i + 1)) ∧ nmV (hid ops ms (q + i)) (vs i) = true ∧ ∀ j r, j ∈ (ms.getD (q + i) ⟨[], [], []⟩).ws → (Hs (i + 1))[j]? = some (some r) → NMRow (hid ops ms (q + i)) r) ∧
      (b = false → vs i = undef ∧ Hs (i + 1) = Hs i)) ∧ K (TD l 0 vs (fun k => decide (k < l.length)) T) (Hs l.length)
theorem run_of2 {P : Program} {C : Ctx P} {ops : Array Oper} {ms : List Meta} {N : Nat} {K : Tm → Heap → Prop} : ∀ (l : List Oper) (q : Nat) (T : Tm) (H : Heap), H.length = N → sOpsW C ops ms N l q T H K → RunOf2 C ops ms N K l q T H
  | [], q, T, H, hl, h => ⟨fun _ => undef, fun _ => H, rfl, fun _ _ => hl, fun i o hi => by simp at hi, h⟩
  | o :: r, q, T, H, hl, h => by
    have none' : ∀ (vs : Nat → Value) (l : List Oper) (k : Nat) (T : Tm), TD l k vs (fun _ => false) T = T := by
      intro vs l
      induction l with
      | nil => intro k T; rfl
      | cons a l ih => intro k T; rw [TD, if_neg (by simp), ih]
    have zero : ∀ (vs : Nat → Value), TD (o :: r) 0 vs (fun k => decide (k < 0)) T = T := fun vs => by
      have : (fun k => decide (k < 0)) = (fun _ : Nat => false) := by funext k; simp
      rw [this, none']
    have succ : ∀ (v : Value) (vs : Nat → Value) (i : Nat), TD (o :: r) 0 (fun j => match j with
        | 0 => v
        | j + 1 => vs j) (fun k => decide (k < i + 1)) T = TD r 0 vs (fun k => decide (k < i)) (putT T o.dst v) := fun v vs i => by
      rw [TD, if_pos (by simp), TD_shift]
      congr 1
      funext k
      simp
    simp only [sOpsW] at h
    split at h
    · exact h.elim
    · rename_i b hb
      have main : ∀ (v : Value) (H' : Heap), H'.length = N → sOpsW C ops ms N r (q + 1) (putT T o.dst v) H' K →
          ((b = true → StepW C N (ms.getD q ⟨[], [], []⟩) T H o.op v H' ∧ nmV (hid ops ms q) v = true ∧ ∀ j r, j ∈ (ms.getD q ⟨[], [], []⟩).ws → H'[j]? = some (some r) → NMRow (hid ops ms q) r) ∧ (b = false → v = undef ∧ H' = H)) → RunOf2 C ops ms N K (o :: r) q T H := by
        intro v H' hl' hk hst
        obtain ⟨vs, Hs, h0, hls, h1, h2⟩ := run_of2 r (q + 1) _ H' hl' hk
        refine ⟨fun j => match j with
          | 0 => v
          | j + 1 => vs j, fun j => match j with
          | 0 => H
          | j + 1 => Hs j, rfl, fun i hi => ?_, fun i o' hi => ?_, ?_⟩
        · cases i with
          | zero => exact hl
          | succ i => exact hls i (by simpa using hi)
        · cases i with
          | zero =>
            simp only [List.getElem?_cons_zero, Option.some.injEq] at hi
            subst hi
            rw [zero]
            refine ⟨b, hb, fun hbt => ?_, fun hbf => ?_⟩
            · show StepW C N (ms.getD q ⟨[], [], []⟩) T H o.op v (Hs 0) ∧ nmV (hid ops ms q) v = true ∧ ∀ j r, j ∈ (ms.getD q ⟨[], [], []⟩).ws → (Hs 0)[j]? = some (some r) → NMRow (hid ops ms q) r
              rw [h0]
              exact hst.1 hbt
            · show v = undef ∧ Hs 0 = H
              rw [h0]
              exact hst.2 hbf
          | succ i =>
            rw [succ]
            have := h1 i o' (by simpa using hi)
            rw [show q + 1 + i = q + (i + 1) by omega] at this
            exact this
        · rw [List.length_cons, succ]
          exact h2
      cases b with
      | true =>
        obtain ⟨v, H', hst, hk⟩ := h.1 rfl
        exact main v H' hst.1.1 hk ⟨fun _ => hst, fun h => by cases h⟩
      | false => exact main undef H hl (h.2 rfl) ⟨(fun h => by cases h), fun _ => ⟨rfl, rfl⟩⟩

theorem adv_pad {P : Program} {ρ0 ρ : Ren} {H0 H : Heap} {w0 w : World} (h : Adv P ρ0 H0 w0 ρ H w) (m : Nat) : Adv P ρ0 H0 w0 ρ (H ++ List.replicate m none) w := by
  have hsub : ∀ (i : Nat) (r : Row), (H ++ List.replicate m none)[i]? = some (some r) → H[i]? = some (some r) := fun i r hi => by
    rcases Nat.lt_or_ge i H.length with h1 | h1
    · rwa [List.getElem?_append_left h1] at hi
    · rw [List.getElem?_append_right h1, List.getElem?_replicate] at hi
      split at hi <;> simp at hi
  exact ⟨h.agree, by have := h.len; simp; omega, ⟨fun i r hi => h.rep.row i r (hsub i r hi), fun i j r s hi hj => h.rep.sep i j r s (hsub i r hi) (hsub j s hj), fun i r hi v hv k hk => by
    have := h.rep.cl i r (hsub i r hi) v hv k hk; simp; omega⟩, h.os, h.tape, h.output, h.size, h.frame, fun i r hi hr => h.fresh i r (hsub i r hi) hr⟩

theorem draw_sound2 {P : Program} {C : Ctx P} {ops : Array Oper} {ms : List Meta} {id m : Nat} {ρ0 ρ : Ren} {H0 H : Heap} {w0 w : World} {T : Tm} {a : Act} {K : Exit → Tm → Heap → Prop}
    (hOK : regionOK2 ops ms = true) (hlow : ∀ k, k < ops.size → ∀ i ∈ (ms.getD k ⟨[], [], []⟩).mks, H0.length ≤ i)
    (nmT : ∀ k, k < ops.size → ∀ (t : Nat) (v : Value), T[t]? = some (some v) → nmV (ms.getD k ⟨[], [], []⟩).mks v = true)
    (nmH : ∀ k, k < ops.size → ∀ (i : Nat) (r : Row), (H ++ List.replicate m none)[i]? = some (some r) → NMRow (ms.getD k ⟨[], [], []⟩).mks r)
    (hs : sOpsW C ops ms (H.length + m) ops.toList 0 T (H ++ List.replicate m none) (K .normal)) (hi : Inv P ρ0 H0 w0 ρ T H a w) : (Code.region id ops true).wp P (Post P ρ0 H0 w0 K) a w := by
  obtain ⟨vs, Hs, h0, hls, h1, h2⟩ := run_of2 _ 0 _ _ (by simp) hs
  simp only [Nat.zero_add] at h1
  have dr : DRun2 C ops ms (H.length + m) H0.length T vs Hs := ⟨hOK, hlow, fun k hk => hls k (by simpa using hk), fun i o hi => h1 i o (by simpa using hi), nmT, by rw [h0]; exact nmH⟩
  refine wp_region_any C.mixed ?_
  have hadv := adv_pad hi.adv m
  have hdrew := adv_drew hadv.rep { w with drawn := w.drawn + 1 } rfl rfl rfl rfl
  refine draw_any2 (ρ0 := ρ0) (H0 := H0) (w0 := w0) dr (fun ρ' a' w' h => ⟨ρ', _, _, h2, h⟩) ops.size _ ρ a _ ?_ ?_
  · simp
  · have none' : ∀ (l : List Oper) (k : Nat) (T : Tm), TD l k vs (fun k => (Array.replicate ops.size false).getD k false) T = T := by
      intro l
      induction l with
      | nil => intro k T; rfl
      | cons a l ih =>
        intro k T
        rw [TD, if_neg, ih]
        simp [Array.getElem?_replicate]
        split <;> simp
    have noH : ∀ k, HS (fun k => (ms.getD k ⟨[], [], []⟩).ws) Hs (fun k => (Array.replicate ops.size false).getD k false) k = Hs 0 := by
      intro k
      induction k with
      | zero => rfl
      | succ k ih =>
        rw [HS, if_neg, ih]
        simp [Array.getElem?_replicate]
        split <;> simp
    have nol : ∀ i, ¬ Lst (Array.replicate ops.size false) i := by
      intro i h
      unfold Lst at h
      simp only [Array.getD_eq_getD_getElem?, Array.getElem?_replicate] at h
      split at h <;> simp at h
    refine ⟨by simp, fun j o ho hl => absurd hl (nol j), by rw [noH, h0]; exact hadv.trans hdrew, ?_, hi.df⟩
    rw [none']
    exact ⟨hi.rt.size, hi.rt.at_, fun t v hv i hi' => by have := hi.rt.cl t v hv i hi'; omega⟩
end Go.Am
