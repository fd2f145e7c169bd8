/- The frame of all our walks, part 17: a call's contract in a bigger memory; how calls end; operations on rows that are told by a list. No condition. -/
import Derived.Test.YtbheeobnghlckaaAm16
set_option linter.unusedVariables false
set_option linter.unusedSimpArgs false
namespace Go.Am
open Go.RowKit

theorem idsP_ren (σ : Nat → Nat) (v : Value) : idsP (mpP (renId σ) v) = (idsP v).map σ := by
  cases v with
  | pointer a => cases a <;> rfl
  | slice a n c => cases a <;> rfl
  | _ => rfl
theorem flatMap_ren {f g : Value → List Nat} {m : Value → Value} {σ : Nat → Nat} (h : ∀ v, f (m v) = (g v).map σ) : ∀ l : List Value, (l.map m).flatMap f = (l.flatMap g).map σ
  | [] => rfl
  | a :: l => by simp [h, flatMap_ren h l]
theorem idsS_ren (σ : Nat → Nat) (v : Value) : idsS (mpS (renId σ) v) = (idsS v).map σ := by
  cases v with
  | func fn first cap => simp only [mpS, idsS, Array.toList_map, ← List.map_append]; exact flatMap_ren (idsP_ren σ) _
  | pointer a => cases a <;> rfl
  | slice a n c => cases a <;> rfl
  | _ => rfl
theorem idsA_ren (σ : Nat → Nat) (v : Value) : idsA (mpA (renId σ) v) = (idsA v).map σ := by
  cases v with
  | agg cs => simp only [mpA, idsA, Array.toList_map]; exact flatMap_ren (idsS_ren σ) _
  | func fn first cap => exact idsS_ren σ (.func fn first cap)
  | pointer a => cases a <;> rfl
  | slice a n c => cases a <;> rfl
  | _ => rfl
theorem idsV_ren (σ : Nat → Nat) (v : Value) : idsV (mpV (renId σ) v) = (idsV v).map σ := by
  cases v with
  | tuple cs => simp only [mpV, idsV, Array.toList_map]; exact flatMap_ren (idsA_ren σ) _
  | agg cs => exact idsA_ren σ (.agg cs)
  | func fn first cap => exact idsS_ren σ (.func fn first cap)
  | pointer a => cases a <;> rfl
  | slice a n c => cases a <;> rfl
  | _ => rfl

/-! ### a contract, laid into a bigger memory under other numbers -/
def shift (k n : Nat) (σ : Nat → Nat) (i : Nat) : Nat := if i < k then σ i else n + (i - k)

/-- each row of H0 is a row of H (perhaps one that may be written there, though not here) -/
structure Emb (H0 H : Heap) (σ : Nat → Nat) : Prop where
  lt : ∀ i, i < H0.length → σ i < H.length
  row : ∀ (i : Nat) (r : Row), H0[i]? = some (some r) → ∃ b : Bool, (r.wr = true → b = true) ∧ H[σ i]? = some (some { renRow σ r with wr := b })
  inj : ∀ (i j : Nat) (r s : Row), H0[i]? = some (some r) → H0[j]? = some (some s) → r.wr = true → i ≠ j → σ i ≠ σ j

theorem Sound.emb {P : Program} {f : FuncId} {args0 args : List Value} {H0 E0 H E : Heap} {v0 v : Value} (σ : Nat → Nat) (hS : Sound P f args0 H0 v0 (H0 ++ E0)) (he : Emb H0 H σ) (hcl : Closed H0)
    (hE0 : ∀ r, some r ∈ E0 → r.wr = true ∨ r.cells = []) (ha0 : ∀ x ∈ args0, ∀ i ∈ idsV x, i < H0.length)
    (ha : args = args0.map (mpV (renId σ))) (hv : v = mpV (renId (shift H0.length H.length σ)) v0)
    (hE : E = E0.map (Option.map (renRow (shift H0.length H.length σ)))) : Sound P f args H v (H ++ E) := by
  subst ha hv hE
  refine ⟨hS.can, fun ρ w hr hargs => ?_⟩
  have hrow : ∀ (i : Nat) (r : Row), H0[i]? = some (some r) → RepRow P (fun i => ρ (σ i)) w (ρ (σ i)) r := by
    intro i r hi
    obtain ⟨b, hb, hHi⟩ := he.row i r hi
    obtain ⟨⟨cur, e, fz, hbk, hcu, hwr, hlen⟩, hsc⟩ := hr.row _ _ hHi
    refine ⟨⟨cur, e, fz, hbk, fun j v hv => ?_, fun hw => hwr (hb hw), fun hbx => by have := hlen hbx; simpa [renRow] using this⟩, fun v hv => ?_⟩
    · have := hcu j (mpS (renId σ) v) (by simp [renRow, hv])
      rw [this, mapS, mpS_ren]
    · have := hsc (mpS (renId σ) v) (by simp only [renRow]; exact List.mem_map_of_mem hv)
      rwa [scal_mpS] at this
  have hrep0 : Rep P (fun i => ρ (σ i)) H0 w := by
    refine ⟨hrow, fun i j r s hi hj hs ht hij => ?_, hcl⟩
    obtain ⟨b, hb, hHi⟩ := he.row i r hi
    obtain ⟨c, hc, hHj⟩ := he.row j s hj
    refine hr.sep (σ i) (σ j) _ _ hHi hHj (hb hs) ?_ (he.inj i j r s hi hj hs hij)
    rcases ht with ht | ht
    · exact Or.inl (hc ht)
    · exact Or.inr (by simpa [renRow] using ht)
  have hargs0 : (args0.map (mpV (renId σ))).map (mapV ρ) = args0.map (mapV fun i => ρ (σ i)) := by
    rw [List.map_map]
    exact List.map_congr_left fun x _ => mpV_ren ρ σ x
  rw [hargs0]
  refine (hS.run (fun i => ρ (σ i)) w hrep0 ha0).mono fun e w' hh => ?_
  obtain ⟨ρ0, rfl, ad, hvi⟩ := hh
  let τ := shift H0.length H.length σ
  let ρ' : Ren := fun i => if i < H.length then ρ i else ρ0 (H0.length + (i - H.length))
  have hτ : ∀ i, i < (H0 ++ E0).length → ρ' (τ i) = ρ0 i := by
    intro i hi
    simp only [ρ', τ, shift]
    by_cases h : i < H0.length
    · rw [if_pos h, if_pos (he.lt i h), ad.agree i h]
    · rw [if_neg h, if_neg (by omega)]
      congr 1
      omega
  have hmv : mapV ρ0 v0 = mapV ρ' (mpV (renId τ) v0) := by
    rw [mapV, mapV, mpV_ren]
    exact (mapV_agree (ρ := ρ0) (ρ' := fun i => ρ' (τ i)) fun i hi => hτ i (hvi i hi)).symm
  have hag : ∀ i, i < H.length → ρ' i = ρ i := fun i hi => by simp only [ρ', if_pos hi]
  -- a new row
  have hnew : ∀ (k : Nat) (r : Row), (E0.map (Option.map (renRow τ)))[k]? = some (some r) → ∃ r0, E0[k]? = some (some r0) ∧ r = renRow τ r0 := by
    intro k r hk
    rw [List.getElem?_map] at hk
    cases h : E0[k]? with
    | none => rw [h] at hk; cases hk
    | some o =>
      rw [h] at hk
      cases o with
      | none => simp at hk
      | some r0 => simp at hk; exact ⟨r0, rfl, hk.symm⟩
  have hE0i : ∀ (k : Nat) (r0 : Row), E0[k]? = some (some r0) → (H0 ++ E0)[H0.length + k]? = some (some r0) := fun k r0 hk => by
    rw [List.getElem?_append_right (by omega)]; simpa using hk
  have hsplit : ∀ (i : Nat) (r : Row), (H ++ E0.map (Option.map (renRow τ)))[i]? = some (some r) → (i < H.length ∧ H[i]? = some (some r)) ∨ ∃ k r0, i = H.length + k ∧ E0[k]? = some (some r0) ∧ r = renRow τ r0 := by
    intro i r hi
    rcases Nat.lt_or_ge i H.length with h | h
    · rw [List.getElem?_append_left h] at hi; exact Or.inl ⟨h, hi⟩
    · rw [List.getElem?_append_right h] at hi
      obtain ⟨r0, h1, h2⟩ := hnew _ _ hi
      exact Or.inr ⟨i - H.length, r0, by omega, h1, h2⟩
  have hρn : ∀ k, ρ' (H.length + k) = ρ0 (H0.length + k) := fun k => by
    simp only [ρ']
    rw [if_neg (by omega)]
    congr 1
    omega
  have hmem : ∀ (k : Nat) (r0 : Row), E0[k]? = some (some r0) → some r0 ∈ E0 := fun k r0 h => List.mem_of_getElem? h
  -- an old row is as it was, or is one of the contract's
  have hold : ∀ (i : Nat) (r : Row), H[i]? = some (some r) → RepRow P ρ' w' (ρ i) r := by
    intro i r hi
    have hR := hr.row i r hi
    have hag2 : ∀ v ∈ r.cells, mapS ρ' v = mapS ρ v := fun v hv => mapS_agree fun k hk => hag k (hr.cl i r hi v hv k hk)
    by_cases hw : ∃ (j : Nat) (s : Row), H0[j]? = some (some s) ∧ s.wr = true ∧ (ρ (σ j)).blk = (ρ i).blk
    · obtain ⟨j, s, hj, hs, hb⟩ := hw
      obtain ⟨b, hbt, hHj⟩ := he.row j s hj
      have hjl := lt_of_some hj
      by_cases hij : i = σ j
      · subst hij
        rw [hi] at hHj
        simp only [Option.some.injEq] at hHj
        have hR2 := ad.rep.row j s (by rw [List.getElem?_append_left hjl]; exact hj)
        have hag3 := ad.agree j hjl
        rw [hag3] at hR2
        obtain ⟨⟨cur, e, fz, h1, h2, h3, h4⟩, h5⟩ := hR2
        subst hHj
        refine ⟨⟨cur, e, fz, h1, fun k v hv => ?_, fun _ => h3 hs, fun hx => by simpa [renRow] using h4 hx⟩, fun v hv => ?_⟩
        · simp only [renRow, List.getElem?_map] at hv
          cases hx : s.cells[k]? with
          | none => rw [hx] at hv; cases hv
          | some u =>
            rw [hx] at hv
            simp only [Option.map_some, Option.some.injEq] at hv
            subst hv
            rw [h2 k u hx]
            have hids : ∀ q ∈ idsS u, q < H0.length := fun q hq => hcl j s hj u (List.mem_of_getElem? hx) q hq
            rw [mapS, mapS, mpS_ren]
            congr 1
            refine mapS_agree fun q hq => ?_
            have := hids q hq
            rw [hag _ (he.lt q this), ad.agree q this]
        · simp only [renRow, List.mem_map] at hv
          obtain ⟨u, hu, rfl⟩ := hv
          rw [scal_mpS]; exact h5 u hu
      · have hq : ¬ (r.wr = true ∨ r.cells ≠ []) := fun hq => hr.sep (σ j) i _ r hHj hi (hbt hs) hq (fun h => hij h.symm) hb
        have hnil : r.cells = [] := Classical.byContradiction fun hn => hq (Or.inr hn)
        have hR2 := ad.rep.row j s (by rw [List.getElem?_append_left hjl]; exact hj)
        have hag3 := ad.agree j hjl
        rw [hag3] at hR2
        obtain ⟨⟨cur2, e2, fz2, hb2, _⟩, _⟩ := hR2
        obtain ⟨⟨cur, e, fz, hb1, hcu, hwr, hlen⟩, hsc⟩ := hR
        exact ⟨⟨cur2, e2, fz2, by rw [← hb]; exact hb2, (fun k v hv => by rw [hnil] at hv; simp at hv), (fun hw2 => absurd (Or.inl hw2) hq), hlen⟩, hsc⟩
    · have hfr := ad.frame _ hR.lt fun j s hj hs hb => hw ⟨j, s, hj, hs, hb⟩
      obtain ⟨⟨cur, e, fz, h1, h2, h3, h4⟩, h5⟩ := hR.world hfr
      exact ⟨⟨cur, e, fz, h1, fun k v hv => by rw [h2 k v hv, hag2 v (List.mem_of_getElem? hv)], h3, h4⟩, h5⟩
  have hnewblk : ∀ (k : Nat) (r0 : Row), E0[k]? = some (some r0) → r0.wr = true → w.heap.size ≤ (ρ0 (H0.length + k)).blk := by
    intro k r0 hk hw
    rcases ad.fresh (H0.length + k) r0 (hE0i k r0 hk) hw with h | ⟨j, s, hj, hs, hb⟩
    · exact h
    · exfalso
      have hjl := lt_of_some hj
      refine ad.rep.sep (H0.length + k) j r0 s (hE0i k r0 hk) (by rw [List.getElem?_append_left hjl]; exact hj) hw (Or.inl hs) (by omega) ?_
      rw [ad.agree j hjl]
      exact hb.symm
  refine ⟨ρ', by rw [hmv], ⟨hag, by simp, ⟨?_, ?_, ?_⟩, ad.os, ad.tape, ad.output, ad.size, ?_, ?_⟩, ?_⟩
  · intro i r hi
    rcases hsplit i r hi with ⟨h, hi'⟩ | ⟨k, r0, rfl, hk, rfl⟩
    · rw [hag i h]; exact hold i r hi'
    · rw [hρn]
      obtain ⟨⟨cur, e, fz, h1, h2, h3, h4⟩, h5⟩ := ad.rep.row _ _ (hE0i k r0 hk)
      refine ⟨⟨cur, e, fz, h1, fun j v hv => ?_, h3, fun hx => by simpa [renRow] using h4 hx⟩, fun v hv => ?_⟩
      · simp only [renRow, List.getElem?_map] at hv
        cases hx : r0.cells[j]? with
        | none => rw [hx] at hv; cases hv
        | some u =>
          rw [hx] at hv
          simp only [Option.map_some, Option.some.injEq] at hv
          subst hv
          rw [h2 j u hx, mapS, mapS, mpS_ren]
          congr 1
          exact (mapS_agree (ρ := ρ0) (ρ' := fun i => ρ' (τ i)) fun q hq => hτ q (ad.rep.cl _ _ (hE0i k r0 hk) u (List.mem_of_getElem? hx) q hq)).symm
      · simp only [renRow, List.mem_map] at hv
        obtain ⟨u, hu, rfl⟩ := hv
        rw [scal_mpS]; exact h5 u hu
  · intro i j r s hi hj hw ht hij
    rcases hsplit i r hi with ⟨h, hi'⟩ | ⟨k, r0, rfl, hk, rfl⟩
    · rcases hsplit j s hj with ⟨h2, hj'⟩ | ⟨k2, s0, rfl, hk2, rfl⟩
      · rw [hag i h, hag j h2]; exact hr.sep i j r s hi' hj' hw ht hij
      · rw [hag i h, hρn]
        have hlt := (hr.row i r hi').lt
        rcases hE0 s0 (hmem k2 s0 hk2) with hs | hs
        · have := hnewblk k2 s0 hk2 hs
          omega
        · rcases ht with ht | ht
          · have := hnewblk k2 s0 hk2 ht
            omega
          · simp [renRow, hs] at ht
    · rcases hsplit j s hj with ⟨h2, hj'⟩ | ⟨k2, s0, rfl, hk2, rfl⟩
      · rw [hag j h2, hρn]
        have hlt := (hr.row j s hj').lt
        have := hnewblk k r0 hk hw
        omega
      · rw [hρn, hρn]
        refine ad.rep.sep _ _ r0 s0 (hE0i k r0 hk) (hE0i k2 s0 hk2) hw ?_ (by omega)
        rcases ht with ht | ht
        · exact Or.inl ht
        · exact Or.inr (by simpa [renRow] using ht)
  · intro i r hi v hv q hq
    rcases hsplit i r hi with ⟨h, hi'⟩ | ⟨k, r0, rfl, hk, rfl⟩
    · have := hr.cl i r hi' v hv q hq
      simp; omega
    · simp only [renRow, List.mem_map] at hv
      obtain ⟨u, hu, rfl⟩ := hv
      rw [idsS_ren] at hq
      obtain ⟨q0, hq0, rfl⟩ := List.mem_map.1 hq
      have := ad.rep.cl _ _ (hE0i k r0 hk) u hu q0 hq0
      simp only [τ, shift, List.length_append, List.length_map] at this ⊢
      by_cases h : q0 < H0.length
      · rw [if_pos h]; have := he.lt q0 h; omega
      · rw [if_neg h]; omega
  · intro k hk hn
    refine ad.frame k hk fun j s hj hs => ?_
    obtain ⟨b, hb, hHj⟩ := he.row j s hj
    exact hn (σ j) _ hHj (hb hs)
  · intro i r hi hw
    rcases hsplit i r hi with ⟨h, hi'⟩ | ⟨k, r0, rfl, hk, rfl⟩
    · exact Or.inr ⟨i, r, hi', hw, by rw [hag i h]⟩
    · rw [hρn]
      exact Or.inl (hnewblk k r0 hk hw)
  · intro i hi
    rw [idsV_ren] at hi
    obtain ⟨q0, hq0, rfl⟩ := List.mem_map.1 hi
    have := hvi q0 hq0
    simp only [τ, shift, List.length_append, List.length_map] at this ⊢
    by_cases h : q0 < H0.length
    · rw [if_pos h]; have := he.lt q0 h; omega
    · rw [if_neg h]; omega

end Go.Am
