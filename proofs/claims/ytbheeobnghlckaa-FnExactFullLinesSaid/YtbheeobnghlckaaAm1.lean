/- The frame of all our walks, part 1: the steps of memory: a row more, a row stored into, moved, dropped. No condition. -/
import Derived.Test.YtbheeobnghlckaaAm0
set_option linter.unusedVariables false
set_option linter.unusedSimpArgs false
namespace Go.Am
open Go.RowKit

def updR (ρ : Ren) (n : Nat) (l : Loc) : Ren := fun i => if i = n then l else ρ i
theorem updR_lt {ρ : Ren} {n : Nat} {l : Loc} {i : Nat} (h : i < n) : updR ρ n l i = ρ i := by
  unfold updR; rw [if_neg (by omega)]
theorem updR_eq {ρ : Ren} {n : Nat} {l : Loc} : updR ρ n l n = l := by unfold updR; rw [if_pos rfl]

theorem RepRow.agree {P : Program} {ρ ρ' : Ren} {w : World} {l : Loc} {r : Row} {n : Nat} (h : RepRow P ρ w l r) (hcl : ∀ v ∈ r.cells, ∀ k ∈ idsS v, k < n) (ha : ∀ i, i < n → ρ' i = ρ i) : RepRow P ρ' w l r := by
  obtain ⟨⟨cur, e, fz, hb, hc, hw, hl⟩, hs⟩ := h
  refine ⟨⟨cur, e, fz, hb, fun j v hv => ?_, hw, hl⟩, hs⟩
  rw [hc j v hv, mapS_agree fun i hi => ha i (hcl v (List.mem_of_getElem? hv) i hi)]

theorem getElem?_snoc {α : Type} {l : List α} {x : α} {i : Nat} {y : α} (h : (l ++ [x])[i]? = some y) : (i < l.length ∧ l[i]? = some y) ∨ (i = l.length ∧ x = y) := by
  rcases Nat.lt_or_ge i l.length with hi | hi
  · rw [List.getElem?_append_left hi] at h; exact Or.inl ⟨hi, h⟩
  · rw [List.getElem?_append_right hi] at h
    obtain ⟨k, rfl⟩ : ∃ k, i = l.length + k := ⟨i - l.length, by omega⟩
    rw [Nat.add_sub_cancel_left] at h
    cases k with
    | zero => exact Or.inr ⟨rfl, by simpa using h⟩
    | succ k => simp at h

theorem lt_of_some {α : Type} {l : List α} {i : Nat} {y : α} (h : l[i]? = some y) : i < l.length := (List.getElem?_eq_some_iff.1 h).1

/-- a world whose memory has blocks more -/
theorem RepRow.world {P : Program} {ρ : Ren} {w w' : World} {l : Loc} {r : Row} (h : RepRow P ρ w l r) (hb : w'.heap[l.blk]? = w.heap[l.blk]?) : RepRow P ρ w' l r := by
  obtain ⟨⟨cur, e, fz, hb', rest⟩, hs⟩ := h
  exact ⟨⟨cur, e, fz, hb.trans hb', rest⟩, hs⟩

/-- a new row in a new block -/
theorem adv_push {P : Program} {ρ : Ren} {H : Heap} {w w' : World} (h : Rep P ρ H w) (r : Row) (cs : Array Value) (cap : Nat)
    (hos : w'.os = w.os) (htape : w'.tape = w.tape) (hout : w'.output = w.output) (hheap : w'.heap = w.heap.push (.cells cs r.elem))
    (hc : ∀ (j : Nat) (v : Value), r.cells[j]? = some v → cs[j]? = some (mapS ρ v)) (hcl : ∀ v ∈ r.cells, ∀ k ∈ idsS v, k < H.length) (hsc : ∀ v ∈ r.cells, scal v = true)
    (hsz : r.box = false → cap ≤ maxLen ∧ cs.size = cap * P.cellsOf r.elem) (hbx : r.box = true → cap = boxCap P r.elem) :
    Adv P ρ H w (updR ρ H.length ⟨w.heap.size, 0, cap⟩) (H ++ [some r]) w' := by
  have hold : ∀ k, k < w.heap.size → w'.heap[k]? = w.heap[k]? := fun k hk => by
    rw [hheap, Array.getElem?_push, if_neg (by omega)]
  have hnew : w'.heap[w.heap.size]? = some (.cells cs r.elem) := by rw [hheap, Array.getElem?_push, if_pos rfl]
  have hlt : ∀ (i : Nat) (s : Row), H[i]? = some (some s) → (ρ i).blk < w.heap.size := fun i s hi => (h.row i s hi).lt
  refine ⟨fun i hi => updR_lt hi, by simp, ⟨?_, ?_, ?_⟩, hos, htape, hout, by rw [hheap]; simp, fun k hk _ => hold k hk, ?_⟩
  · intro i s hi
    rcases getElem?_snoc hi with ⟨hl, hi⟩ | ⟨rfl, he⟩
    · rw [updR_lt hl]
      exact ((h.row i s hi).agree (h.cl i s hi) fun j hj => updR_lt hj).world (hold _ (hlt i s hi))
    · simp only [Option.some.injEq] at he
      subst he
      rw [updR_eq]
      refine ⟨⟨cs, r.elem, (0, 0), hnew, fun j v hv => ?_, fun _ => ⟨rfl, rfl, rfl, hsz, hbx⟩, fun hb => ?_⟩, hsc⟩
      · show cs[0 + j]? = _
        rw [Nat.zero_add, hc j v hv, mapS_agree fun k hk => updR_lt (hcl v (List.mem_of_getElem? hv) k hk)]
      · have h2 := (hsz hb).2
        show r.cells.length ≤ cap * P.cellsOf r.elem
        rw [← h2]
        rcases Nat.lt_or_ge cs.size r.cells.length with hgt | hge
        · have hv : r.cells[cs.size]? = some r.cells[cs.size] := List.getElem?_eq_getElem hgt
          have := hc _ _ hv
          simp at this
        · exact hge
  · intro i j s t hi hj hs ht hij
    rcases getElem?_snoc hi with ⟨hl, hi⟩ | ⟨rfl, he⟩ <;> rcases getElem?_snoc hj with ⟨hl', hj⟩ | ⟨rfl, he'⟩
    · rw [updR_lt hl, updR_lt hl']; exact h.sep i j s t hi hj hs ht hij
    · rw [updR_lt hl, updR_eq]; have := hlt i s hi; show (ρ i).blk ≠ w.heap.size; omega
    · rw [updR_eq, updR_lt hl']; have := hlt j t hj; show w.heap.size ≠ (ρ j).blk; omega
    · exact absurd rfl hij
  · intro i s hi v hv k hk
    rw [List.length_append]
    rcases getElem?_snoc hi with ⟨hl, hi⟩ | ⟨rfl, he⟩
    · have := h.cl i s hi v hv k hk; omega
    · simp only [Option.some.injEq] at he
      subst he
      have := hcl v hv k hk; omega
  · intro i s hi hs
    rcases getElem?_snoc hi with ⟨hl, hi⟩ | ⟨rfl, he⟩
    · exact Or.inr ⟨i, s, hi, hs, by rw [updR_lt hl]⟩
    · rw [updR_eq]; exact Or.inl (Nat.le_refl _)

theorem set_none {H : Heap} {i j : Nat} {s : Row} {x : Option Row} (h : (H.set i x)[j]? = some (some s)) : (j = i ∧ x = some s ∧ i < H.length) ∨ (j ≠ i ∧ H[j]? = some (some s)) := by
  rcases Nat.decEq j i with hne | heq
  · rw [List.getElem?_set_ne (Ne.symm hne)] at h; exact Or.inr ⟨hne, h⟩
  · subst heq
    have hlt : j < (H.set j x).length := lt_of_some h
    rw [List.length_set] at hlt
    rw [List.getElem?_set_self hlt] at h
    exact Or.inl ⟨rfl, by simpa using h, hlt⟩

/-- a row dropped -/
theorem adv_kill {P : Program} {ρ : Ren} {H : Heap} {w : World} (h : Rep P ρ H w) (i : Nat) : Adv P ρ H w ρ (H.set i none) w := by
  have hk : ∀ (j : Nat) (s : Row), (H.set i none)[j]? = some (some s) → H[j]? = some (some s) := fun j s hj => by
    rcases set_none hj with ⟨_, h0, _⟩ | ⟨_, h1⟩
    · cases h0
    · exact h1
  exact ⟨fun _ _ => rfl, by simp, ⟨fun j s hj => h.row j s (hk j s hj), fun j k s t hj hk' => h.sep j k s t (hk j s hj) (hk k t hk'), fun j s hj v hv x hx => by
    rw [List.length_set]; exact h.cl j s (hk j s hj) v hv x hx⟩, rfl, rfl, rfl, Nat.le_refl _, fun _ _ _ => rfl, fun j s hj hs => Or.inr ⟨j, s, hk j s hj, hs, rfl⟩⟩

/-- the same row under a new number -/
theorem adv_move {P : Program} {ρ : Ren} {H : Heap} {w : World} (h : Rep P ρ H w) (i : Nat) (r : Row) (hi : H[i]? = some (some r)) :
    Adv P ρ H w (updR ρ H.length (ρ i)) (H.set i none ++ [some r]) w := by
  have hil : i < H.length := lt_of_some hi
  have hlen : (H.set i none).length = H.length := by simp
  have hk : ∀ (j : Nat) (s : Row), (H.set i none ++ [some r])[j]? = some (some s) → (j < H.length ∧ j ≠ i ∧ H[j]? = some (some s)) ∨ (j = H.length ∧ s = r) := fun j s hj => by
    rcases getElem?_snoc hj with ⟨hl, hj⟩ | ⟨rfl, he⟩
    · rw [hlen] at hl
      rcases set_none hj with ⟨_, h0, _⟩ | ⟨h0, h1⟩
      · cases h0
      · exact Or.inl ⟨hl, h0, h1⟩
    · simp only [Option.some.injEq] at he
      exact Or.inr ⟨hlen, he.symm⟩
  refine ⟨fun j hj => updR_lt hj, by simp, ⟨?_, ?_, ?_⟩, rfl, rfl, rfl, Nat.le_refl _, fun _ _ _ => rfl, ?_⟩
  · intro j s hj
    rcases hk j s hj with ⟨hl, hne, hj⟩ | ⟨rfl, rfl⟩
    · rw [updR_lt hl]; exact (h.row j s hj).agree (h.cl j s hj) fun k hk => updR_lt hk
    · rw [updR_eq]; exact (h.row i s hi).agree (h.cl i s hi) fun k hk => updR_lt hk
  · intro j k s t hj hk' hs ht hjk
    rcases hk j s hj with ⟨hl, hne, hj1⟩ | ⟨rfl, rfl⟩ <;> rcases hk k t hk' with ⟨hl', hne', hk1⟩ | ⟨rfl, rfl⟩
    · rw [updR_lt hl, updR_lt hl']; exact h.sep j k s t hj1 hk1 hs ht hjk
    · rw [updR_lt hl, updR_eq]; exact h.sep j i s _ hj1 hi hs ht hne
    · rw [updR_eq, updR_lt hl']; exact h.sep i k _ t hi hk1 hs ht (Ne.symm hne')
    · exact absurd rfl hjk
  · intro j s hj v hv x hx
    rw [List.length_append, hlen]
    rcases hk j s hj with ⟨hl, hne, hj⟩ | ⟨rfl, rfl⟩
    · have := h.cl j s hj v hv x hx; omega
    · have := h.cl i s hi v hv x hx; omega
  · intro j s hj hs
    rcases hk j s hj with ⟨hl, hne, hj⟩ | ⟨rfl, rfl⟩
    · exact Or.inr ⟨j, s, hj, hs, by rw [updR_lt hl]⟩
    · exact Or.inr ⟨i, s, hi, hs, by rw [updR_eq]⟩

theorem setRow_other (w : World) (g : Nat) (cs : Array Value) (k : Nat) (h : k ≠ g) : (w.setRow g cs).heap[k]? = w.heap[k]? := by
  simp only [World.setRow, Array.getElem?_modify]
  rw [if_neg (by omega)]

/-- a store into a row -/
theorem adv_store {P : Program} {ρ : Ren} {H : Heap} {w : World} (h : Rep P ρ H w) (i : Nat) (r : Row) (hi : H[i]? = some (some r)) (hw : r.wr = true)
    (cells' : List Value) (cs' : Array Value) (hsize : ∀ cur e fz, w.heap[(ρ i).blk]? = some (.cells cur e fz) → cs'.size = cur.size)
    (hc : ∀ (j : Nat) (v : Value), cells'[j]? = some v → cs'[j]? = some (mapS ρ v)) (hcl : ∀ v ∈ cells', ∀ k ∈ idsS v, k < H.length) (hsc : ∀ v ∈ cells', scal v = true) :
    Adv P ρ H w ρ (H.set i (some { r with cells := cells' })) (w.setRow (ρ i).blk cs') := by
  obtain ⟨⟨cur, e, fz, hb, hcu, hwr, hle⟩, hs0⟩ := h.row i r hi
  obtain ⟨h0, he, hf, hbx, hbx'⟩ := hwr hw
  have hsz := hsize _ _ _ hb
  have hrow := setRow_heap w (ρ i).blk cur cs' e fz hb
  have hil : i < H.length := lt_of_some hi
  refine ⟨fun _ _ => rfl, by simp, ⟨?_, ?_, ?_⟩, rfl, rfl, rfl, by simp [World.setRow], ?_, ?_⟩
  · intro j s hj
    rcases set_none hj with ⟨rfl, h1, _⟩ | ⟨hne, hj⟩
    · simp only [Option.some.injEq] at h1
      subst h1
      refine ⟨⟨cs', e, fz, hrow, (fun k v hv => by rw [h0, Nat.zero_add]; exact hc k v hv), fun _ => ⟨h0, he, hf, fun hb => ⟨(hbx hb).1, hsz.trans (hbx hb).2⟩, hbx'⟩, fun hb => ?_⟩, hsc⟩
      have h2 := (hbx hb).2
      show cells'.length ≤ (ρ j).cap * P.cellsOf r.elem
      rw [← h2, ← hsz]
      rcases Nat.lt_or_ge cs'.size cells'.length with hgt | hge
      · have hv : cells'[cs'.size]? = some cells'[cs'.size] := List.getElem?_eq_getElem hgt
        have := hc _ _ hv
        simp at this
      · exact hge
    · by_cases hblk : (ρ j).blk = (ρ i).blk
      · have hq : ¬ (s.wr = true ∨ s.cells ≠ []) := fun hq => h.sep i j r s hi hj hw hq (Ne.symm hne) hblk.symm
        obtain ⟨⟨cur2, e2, fz2, hb2, hcu2, hwr2, hle2⟩, hs2⟩ := h.row j s hj
        have hnil : s.cells = [] := Classical.byContradiction fun hn => hq (Or.inr hn)
        refine ⟨⟨cs', e, fz, by rw [hblk]; exact hrow, (fun k v hv => by rw [hnil] at hv; simp at hv), fun hw2 => absurd (Or.inl hw2) hq, hle2⟩, hs2⟩
      · exact (h.row j s hj).world (setRow_other _ _ _ _ hblk)
  · intro j k s t hj hk hs ht hjk
    rcases set_none hj with ⟨rfl, h1, _⟩ | ⟨hne, hj1⟩ <;> rcases set_none hk with ⟨rfl, h2, _⟩ | ⟨hne', hk1⟩
    · exact absurd rfl hjk
    · exact h.sep j k r t hi hk1 hw ht hjk
    · exact h.sep j k s r hj1 hi hs (Or.inl hw) hjk
    · exact h.sep j k s t hj1 hk1 hs ht hjk
  · intro j s hj v hv x hx
    rw [List.length_set]
    rcases set_none hj with ⟨rfl, h1, _⟩ | ⟨hne, hj⟩
    · simp only [Option.some.injEq] at h1
      subst h1
      exact hcl v hv x hx
    · exact h.cl j s hj v hv x hx
  · intro k hk hn
    exact setRow_other _ _ _ _ (fun e => hn i r hi hw e.symm)
  · intro j s hj hs
    rcases set_none hj with ⟨rfl, h1, _⟩ | ⟨hne, hj⟩
    · exact Or.inr ⟨j, r, hi, hw, rfl⟩
    · exact Or.inr ⟨j, s, hj, hs, rfl⟩

/-- a draw -/
theorem adv_drew {P : Program} {ρ : Ren} {H : Heap} {w : World} (h : Rep P ρ H w) (w' : World) (hos : w'.os = w.os) (htape : w'.tape = w.tape) (hout : w'.output = w.output) (hheap : w'.heap = w.heap) : Adv P ρ H w ρ H w' := by
  refine ⟨fun _ _ => rfl, Nat.le_refl _, ⟨fun i r hi => (h.row i r hi).world (by rw [hheap]), h.sep, h.cl⟩, hos, htape, hout, by rw [hheap]; exact Nat.le_refl _, fun _ _ _ => by rw [hheap], fun i r hi hr => Or.inr ⟨i, r, hi, hr, rfl⟩⟩

/-- an empty row, read alone, in a block that is there -/
theorem adv_view {P : Program} {ρ : Ren} {H : Heap} {w : World} (h : Rep P ρ H w) (i : Nat) (r : Row) (hi : H[i]? = some (some r)) (l : Loc) (hl : l.blk = (ρ i).blk) (e : TypeId) :
    Adv P ρ H w (updR ρ H.length l) (H ++ [some ⟨[], e, false, false⟩]) w := by
  refine ⟨fun j hj => updR_lt hj, by simp, ⟨?_, ?_, ?_⟩, rfl, rfl, rfl, Nat.le_refl _, fun _ _ _ => rfl, ?_⟩
  · intro j s hj
    rcases getElem?_snoc hj with ⟨hl', hj⟩ | ⟨rfl, he⟩
    · rw [updR_lt hl']; exact (h.row j s hj).agree (h.cl j s hj) fun k hk => updR_lt hk
    · simp only [Option.some.injEq] at he
      subst he
      rw [updR_eq]
      obtain ⟨⟨cur, e', fz, hb, _⟩, _⟩ := h.row i r hi
      exact ⟨⟨cur, e', fz, by rw [hl]; exact hb, (fun j v hv => by simp at hv), (fun hw => by cases hw), (fun _ => by simp)⟩, (fun v hv => by simp at hv)⟩
  · intro j k s t hj hk hs ht hjk
    rcases getElem?_snoc hj with ⟨hl1, hj⟩ | ⟨rfl, he⟩
    · rcases getElem?_snoc hk with ⟨hl2, hk⟩ | ⟨rfl, he'⟩
      · rw [updR_lt hl1, updR_lt hl2]; exact h.sep j k s t hj hk hs ht hjk
      · simp only [Option.some.injEq] at he'
        subst he'
        rcases ht with ht | ht
        · cases ht
        · exact absurd rfl ht
    · simp only [Option.some.injEq] at he
      subst he
      cases hs
  · intro j s hj v hv x hx
    rw [List.length_append]
    rcases getElem?_snoc hj with ⟨hl', hj⟩ | ⟨rfl, he⟩
    · have := h.cl j s hj v hv x hx; omega
    · simp only [Option.some.injEq] at he
      subst he
      simp at hv
  · intro j s hj hs
    rcases getElem?_snoc hj with ⟨hl', hj⟩ | ⟨rfl, he⟩
    · exact Or.inr ⟨j, s, hj, hs, by rw [updR_lt hl']⟩
    · simp only [Option.some.injEq] at he
      subst he
      cases hs

end Go.Am
