/- The frame of all our walks: the rules for regions in any order, step by step. No condition. -/
import Derived.Test.YtbheeobnghlckaaAmD
import Derived.Test.YtbheeobnghlckaaAm22
set_option linter.unusedVariables false
set_option linter.unusedSimpArgs false
namespace Go.Am
open Go.RowKit

/-- the rows that an operation looks at or changes -/
def idsO (T : Tm) (x : Operand) : List Nat := match evalO T x with
  | some u => idsV u
  | none => []
def touch (T : Tm) : Op → List Nat
  | .load _ x => idsO T x
  | .store _ x _ => idsO T x
  | .slice _ x _ _ _ => idsO T x
  | .call c => c.args.toList.flatMap (idsO T)
  | _ => []
inductive Same2 (t : List Nat) (H G : Heap) : Heap → Heap → Prop
  | id : Same2 t H G H G
  | new (r : Row) : Same2 t H G (H ++ [some r]) (G ++ [some r])
  | set (b : Nat) (x : Option Row) : b ∈ t → Same2 t H G (H.set b x) (G.set b x)
  | app (b : Nat) (r : Row) : b ∈ t → Same2 t H G (H.set b none ++ [some r]) (G.set b none ++ [some r])

theorem row?_agree {H G : Heap} {b : Nat} (h : G[b]? = H[b]?) : row? G b = row? H b := by unfold row?; rw [h]
theorem idsO_mem {T : Tm} {x : Operand} {u : Value} {i : Nat} (hu : evalO T x = some u) (hi : i ∈ idsV u) : i ∈ idsO T x := by unfold idsO; rw [hu]; exact hi

section
variable {P : Program} {C : Ctx P}
theorem readS_agree {H G : Heap} {size : Nat} {x : Value} (h : ∀ b ∈ idsV x, G[b]? = H[b]?) : readS G size x = readS H size x := by
  unfold readS
  cases x with
  | slice a n c => cases a with
    | none => rfl
    | some a => simp only [row?_agree (h a.block (by simp [idsV, idsA, idsS, idsP]))]
  | _ => rfl
theorem opLoad_agree {H G : Heap} {t : TypeId} {x : Value} (h : ∀ b ∈ idsV x, G[b]? = H[b]?) : opLoad P G t x = opLoad P H t x := by
  unfold opLoad
  cases x with
  | pointer a => cases a with
    | none => rfl
    | some a => simp only [row?_agree (h a.block (by simp [idsV, idsA, idsS, idsP]))]
  | _ => rfl

theorem evOp_local {T : Tm} {H H1 : Heap} {op : Op} {v1 : Value} (h : evOp C T H op = some (v1, H1)) {G : Heap} (hlen : G.length = H.length) (hag : ∀ b ∈ touch T op, G[b]? = H[b]?) : ∃ G1, evOp C T G op = some (v1, G1) ∧ Same2 (touch T op) H G H1 G1 := by
  by_cases hp : isPure op = true
  · obtain ⟨rfl, h2⟩ := evOp_pure hp h
    exact ⟨G, h2 G, .id⟩
  cases op with
  | load t x =>
    simp only [evOp, Option.bind_eq_some_iff, Option.map_eq_some_iff, Prod.mk.injEq] at h
    obtain ⟨u, hu, r, hr, rfl, rfl⟩ := h
    refine ⟨G, ?_, .id⟩
    simp only [evOp, hu, Option.bind_some, opLoad_agree (P := P) (H := H) (G := G) (t := t) (x := u) fun b hb => hag b (by simpa only [touch] using idsO_mem hu hb), hr]
    rfl
  | slice t x lo hi mx =>
    cases mx with
    | some m => simp [evOp] at h
    | none =>
      simp only [evOp] at h
      split at h
      · rename_i u l hh hu hl hhh
        have key : ∀ a : Addr, a.block ∈ idsV u → row? G a.block = row? H a.block := fun a ha => row?_agree (hag _ (by simpa only [touch] using idsO_mem hu ha))
        have e : ∀ G1, opSlice P G t u l hh = some (v1, G1) → evOp C T G (.slice t x lo hi none) = some (v1, G1) := fun G1 hg => by
          simp only [evOp, hu, hl, hhh, hg]
        unfold opSlice at h
        split at h
        · rename_i s1 s2 z hti
          split at h
          · rename_i s
            split at h
            · rename_i l' h' hb1 hb2
              split at h
              · rename_i hc
                simp only [Option.some.injEq, Prod.mk.injEq] at h
                obtain ⟨rfl, rfl⟩ := h
                refine ⟨G, e _ ?_, .id⟩
                unfold opSlice
                simp only [hti, hb1, hb2]
                rw [if_pos hc]
              · cases h
            · cases h
          · cases h
        · rename_i n el s1 s2 z hti
          split at h
          · rename_i a
            split at h
            · rename_i r te hr hte
              split at h
              · rename_i hc
                simp only [Option.some.injEq, Prod.mk.injEq] at h
                obtain ⟨rfl, rfl⟩ := h
                refine ⟨G, e _ ?_, .id⟩
                have k := key a (by simp [idsV, idsA, idsS, idsP])
                unfold opSlice
                simp only [hti, k, hr, hte]
                rw [if_pos hc]
              · cases h
            · cases h
          · cases h
        · rename_i el s1 s2 z hti
          split at h
          · split at h
            · rename_i te hb1 hb2 hte
              simp only [Option.some.injEq, Prod.mk.injEq] at h
              obtain ⟨rfl, rfl⟩ := h
              refine ⟨G, e _ ?_, .id⟩
              unfold opSlice
              simp only [hti, hb1, hb2, hte]
            · cases h
          · rename_i a len c
            split at h
            · rename_i r te l' h' hr hte hb1 hb2
              have k := key a (by simp [idsV, idsA, idsS, idsP])
              split at h
              · rename_i hc
                split at h
                · rename_i hl'
                  simp only [Option.some.injEq, Prod.mk.injEq] at h
                  obtain ⟨rfl, rfl⟩ := h
                  refine ⟨G, e _ ?_, .id⟩
                  unfold opSlice
                  simp only [hti, k, hr, hte, hb1, hb2]
                  rw [if_pos hc, if_pos hl']
                · rename_i hl'
                  simp only [Option.some.injEq, Prod.mk.injEq] at h
                  obtain ⟨rfl, rfl⟩ := h
                  refine ⟨_, e _ ?_, .new _⟩
                  unfold opSlice
                  simp only [hti, k, hr, hte, hb1, hb2]
                  rw [if_pos hc, if_neg hl', hlen]
              · cases h
            · cases h
          · cases h
        · cases h
      · cases h
  | store t x y =>
    simp only [evOp] at h
    split at h
    · rename_i a u ha hu
      simp only [Option.map_eq_some_iff, Prod.mk.injEq] at h
      obtain ⟨H2, hs, rfl, rfl⟩ := h
      have key : ∀ b ∈ idsV a, row? G b = row? H b := fun b hb => row?_agree (hag b (by simpa only [touch] using idsO_mem ha hb))
      have e : ∀ G1, opStore P G t a u = some G1 → evOp C T G (.store t x y) = some (undef, G1) := fun G1 hg => by
        simp only [evOp, ha, hu, hg]
        rfl
      unfold opStore at hs
      split at hs
      · rename_i ad
        split at hs
        · rename_i r ti hr hti
          split at hs
          · rename_i hc
            simp only [Option.some.injEq] at hs
            subst hs
            refine ⟨_, e _ ?_, .set _ _ (by simp only [touch]; exact idsO_mem ha (by simp [idsV, idsA, idsS, idsP]))⟩
            have k := key ad.block (by simp [idsV, idsA, idsS, idsP])
            unfold opStore
            simp only [k, hr, hti]
            rw [if_pos hc]
          · cases hs
        · cases hs
      · cases hs
    · cases h
  | alloc t =>
    simp only [evOp] at h
    unfold opAlloc at h
    repeat' split at h
    all_goals first | (cases h; done) | skip
    all_goals (simp only [Option.some.injEq, Prod.mk.injEq] at h; obtain ⟨rfl, rfl⟩ := h)
    refine ⟨_, ?_, .new _⟩
    simp only [evOp]
    unfold opAlloc
    simp_all
  | box t x =>
    simp only [evOp, Option.bind_eq_some_iff] at h
    obtain ⟨u, hu, h⟩ := h
    unfold opBox at h
    split at h
    · rename_i hc
      simp only [Option.some.injEq, Prod.mk.injEq] at h
      obtain ⟨rfl, rfl⟩ := h
      refine ⟨_, ?_, .new _⟩
      simp only [evOp, hu, Option.bind_some]
      unfold opBox
      rw [if_pos hc, hlen]
    · cases h
  | makeSlice t x y =>
    simp only [evOp] at h
    split at h
    · rename_i u w hu hw
      have e : ∀ G1, opMake P G t u w = some (v1, G1) → evOp C T G (.makeSlice t x y) = some (v1, G1) := fun G1 hg => by
        simp only [evOp, hu, hw, hg]
      unfold opMake at h
      split at h
      · rename_i k n k' m el _ _ _ hti
        split at h
        · rename_i te hte
          split at h
          · rename_i hc
            simp only [Option.some.injEq, Prod.mk.injEq] at h
            obtain ⟨rfl, rfl⟩ := h
            refine ⟨_, e _ ?_, .new _⟩
            unfold opMake
            simp only [hti, hte]
            rw [if_pos hc, hlen]
          · cases h
        · cases h
      · cases h
    · cases h
  | buildSlice t n ps =>
    simp only [evOp, Option.bind_eq_some_iff] at h
    obtain ⟨l, hl, h⟩ := h
    have e : ∀ G1, opBuildSlice P G t n l = some (v1, G1) → evOp C T G (.buildSlice t n ps) = some (v1, G1) := fun G1 hg => by
      simp only [evOp, hl, Option.bind_some, hg]
    unfold opBuildSlice at h
    split at h
    · rename_i el _ _ _ hti
      split at h
      · rename_i te hte
        split at h
        · rename_i hc
          simp only [Option.map_eq_some_iff, Prod.mk.injEq] at h
          obtain ⟨cs, hcs, rfl, rfl⟩ := h
          refine ⟨_, e _ ?_, .new _⟩
          unfold opBuildSlice
          simp only [hti, hte]
          rw [if_pos hc, hcs, hlen]
          rfl
        · cases h
      · cases h
    · cases h
  | call c =>
    obtain ⟨callee, args, tys⟩ := c
    cases callee with
    | builtin b =>
      cases b <;> first | (simp [isPure] at hp; done) | skip
      all_goals first | (simp [evOp] at h; done) | skip
      simp only [evOp] at h
      repeat' split at h
      all_goals first | (cases h; done) | skip
      rename_i x y t t' hargs htys htt _ _ u w hu hw
      subst htt
      have key : ∀ b, (b ∈ idsV u ∨ b ∈ idsV w) → G[b]? = H[b]? := fun b hb => by
        refine hag b ?_
        simp only [touch, hargs, List.flatMap_cons, List.flatMap_nil, List.append_nil, List.mem_append]
        rcases hb with hb | hb
        · exact Or.inl (idsO_mem hu hb)
        · exact Or.inr (idsO_mem hw hb)
      have hmem : ∀ b, b ∈ idsV u → b ∈ touch T (.call ⟨.builtin .append, args, tys⟩) := fun b hb => by
        simp only [touch, hargs, List.flatMap_cons, List.flatMap_nil, List.append_nil, List.mem_append]
        exact Or.inl (idsO_mem hu hb)
      have e : ∀ G1, opAppend P G t u w = some (v1, G1) → evOp C T G (.call ⟨.builtin .append, args, tys⟩) = some (v1, G1) := fun G1 hg => by
        simp only [evOp, hargs, htys, hu, hw, if_true, hg]
      have kr : ∀ a : Addr, a.block ∈ idsV u → row? G a.block = row? H a.block := fun a ha => row?_agree (key _ (Or.inl ha))
      have ks : ∀ n, readS G n w = readS H n w := fun n => readS_agree fun b hb => key b (Or.inr hb)
      unfold opAppend at h
      split at h
      · rename_i el _ _ _ hti
        split at h
        · rename_i te hte
          split at h
          · rename_i hc
            split at h
            · simp only [Option.some.injEq, Prod.mk.injEq] at h
              obtain ⟨rfl, rfl⟩ := h
              refine ⟨G, e _ ?_, .id⟩
              unfold opAppend
              simp only [hti, hte]
              rw [if_pos hc]
            · split at h
              · rename_i l hl
                have k := ks te.size
                split at h
                · rename_i hm
                  simp only [Option.some.injEq, Prod.mk.injEq] at h
                  obtain ⟨rfl, rfl⟩ := h
                  refine ⟨G, e _ ?_, .id⟩
                  unfold opAppend
                  simp only [hti, hte, k, hl]
                  rw [if_pos hc, if_pos hm]
                · rename_i hm
                  split at h
                  · rename_i hb
                    simp only [Option.some.injEq, Prod.mk.injEq] at h
                    obtain ⟨rfl, rfl⟩ := h
                    refine ⟨_, e _ ?_, .new _⟩
                    unfold opAppend
                    simp only [hti, hte, k, hl]
                    rw [if_pos hc, if_neg hm, if_pos hb, hlen]
                  · cases h
              · cases h
            · rename_i b n
              have k := kr b (by simp [idsV, idsA, idsS, idsP])
              split at h
              · rename_i r hr
                split at h
                · rename_i hb
                  simp only [Option.some.injEq, Prod.mk.injEq] at h
                  obtain ⟨rfl, rfl⟩ := h
                  refine ⟨G, e _ ?_, .id⟩
                  unfold opAppend
                  simp only [hti, hte, k, hr]
                  rw [if_pos hc, if_pos hb]
                · cases h
              · cases h
            · rename_i b n a m c
              have k := kr b (by simp [idsV, idsA, idsS, idsP])
              have k2 := ks te.size
              split at h
              · rename_i r l hr hl
                split at h
                · rename_i hb
                  simp only [Option.some.injEq, Prod.mk.injEq] at h
                  obtain ⟨rfl, rfl⟩ := h
                  refine ⟨_, e _ ?_, .app _ _ (hmem _ (by simp [idsV, idsA, idsS, idsP]))⟩
                  unfold opAppend
                  simp only [hti, hte, k, k2, hr, hl]
                  rw [if_pos hc, if_pos hb, hlen]
                · cases h
              · cases h
            · cases h
          · cases h
        · cases h
      · cases h
    | _ => simp [evOp] at h
  | _ => first | (simp [isPure] at hp; done) | (simp [evOp] at h; done)

theorem Same2.pt {t : List Nat} {H G H1 G1 : Heap} {N : Nat} (s : Same2 t H G H1 G1) (hN : H.length = N) (hG : G.length = N) (hag : ∀ b ∈ t, G[b]? = H[b]?) :
    G1.length = H1.length ∧ (∀ i, i ∉ t → i < N → G1[i]? = G[i]?) ∧ (∀ i, i ∈ t ∨ N ≤ i → G1[i]? = H1[i]?) := by
  have base : ∀ i, i ∈ t ∨ N ≤ i → G[i]? = H[i]? := fun i hi => by
    rcases hi with hi | hi
    · exact hag i hi
    · rw [List.getElem?_eq_none (by omega), List.getElem?_eq_none (by omega)]
  have bset : ∀ b x i, i ∈ t ∨ N ≤ i → (G.set b x)[i]? = (H.set b x)[i]? := fun b x i hi => by
    rw [List.getElem?_set, List.getElem?_set, base i hi, hN, hG]
  have bnew : ∀ (G H : Heap) r i, G.length = N → H.length = N → (i ∈ t ∨ N ≤ i → G[i]? = H[i]?) → i ∈ t ∨ N ≤ i → (G ++ [some r])[i]? = (H ++ [some r])[i]? := fun G H r i h1 h2 h3 hi => by
    rcases Nat.lt_or_ge i N with h | h
    · rw [List.getElem?_append_left (by omega), List.getElem?_append_left (by omega)]; exact h3 hi
    · rw [List.getElem?_append_right (by omega), List.getElem?_append_right (by omega), h1, h2]
  cases s with
  | id => exact ⟨by rw [hN, hG], fun i _ _ => rfl, base⟩
  | new r => exact ⟨by simp [hN, hG], fun i _ hi => List.getElem?_append_left (by omega), fun i hi => bnew G H r i hG hN (base i) hi⟩
  | set b x hb => exact ⟨by simp [hN, hG], fun i hi _ => List.getElem?_set_ne (fun e : b = i => hi (e ▸ hb)), fun i hi => bset b x i hi⟩
  | app b r hb =>
    refine ⟨by simp [hN, hG], fun i hi hiN => ?_, fun i hi => bnew _ _ r i (by simp [hG]) (by simp [hN]) (bset b none i) hi⟩
    rw [List.getElem?_append_left (by simp [hG, hiN]), List.getElem?_set_ne (fun e : b = i => hi (e ▸ hb))]

theorem stGen {N : Nat} {m : Meta} {T : Tm} {H H1 H' : Heap} {op : Op} {v v1 : Value} (σ : Nat → Nat) (h : evOp C T H op = some (v1, H1)) (hN : H.length = N) (ht : ((touch T op).all fun i => m.wr.contains i || m.rd.contains i) = true) (hσ : ∀ i, i ∉ m.mks → σ i = i) (hv1 : v1 = mpV (renId σ) v)
    (hinj : ∀ i j, i < N → j < N → σ i = σ j → i = j) (hH' : H'.length = N) (hfr : ∀ i, i ∉ m.ws → H'[i]? = H[i]?) (hv : ((idsV v).all fun i => decide (i < N)) = true) (hcl : ∀ i r, i ∈ m.ws → H'[i]? = some (some r) → ∀ v ∈ r.cells, ∀ k ∈ idsS v, k < N)
    (hwr : ∀ i, i ∉ m.ws → i < N → H1[i]? = H[i]?) (hnew : ∀ i r, i ∈ m.ws → H'[i]? = some (some r) → H1[σ i]? = some (some (renRow σ r)) ∧ (σ i ∈ touch T op ∨ N ≤ σ i)) : StepW C N m T H op v H' := by
  simp only [List.all_eq_true, decide_eq_true_eq, Bool.or_eq_true, List.contains_eq_mem] at hv ht
  refine ⟨hH', hfr, hv, hcl, fun T' G hT hG hag => ?_⟩
  have hsub : ∀ b ∈ touch T op, G[b]? = H[b]? := fun b hb => hag b (by
    rcases ht b hb with h1 | h1
    · exact List.mem_append_left _ (List.mem_append_right _ h1)
    · exact List.mem_append_right _ h1)
  obtain ⟨G1, hg, hs⟩ := evOp_local h (hG.trans hN.symm) hsub
  obtain ⟨p1, p2, p3⟩ := hs.pt hN hG hsub
  rw [evOp_congr (T' := T') fun x hx => hT x (by simpa using hx)] at hg
  refine ⟨v1, G1, σ, .op hg, hσ, hv1, fun i hi hiN => ?_, fun i r hi hr => ?_, hinj⟩
  · by_cases hit : i ∈ touch T op
    · rw [p3 i (Or.inl hit), hwr i hi hiN, hsub i hit]
    · exact p2 i hit hiN
  · obtain ⟨h1, h2⟩ := hnew i r hi hr
    rw [p3 _ h2, h1]

theorem ren_id {v : Value} (h : nmV [] v = true) : v = mpV (renId id) v := (nmV_fix (mk := []) (fun _ _ => rfl) h).symm
theorem stId {N : Nat} {rd : List Nat} {T : Tm} {H : Heap} {op : Op} {v : Value} (h : evOp C T H op = some (v, H)) (hN : H.length = N) (ht : ((touch T op).all fun i => rd.contains i) = true) (hv : ((idsV v).all fun i => decide (i < N)) = true) (hn : nmV [] v = true) : StepW C N ⟨[], [], rd⟩ T H op v H := by
  refine stGen id h hN ?_ (fun _ _ => rfl) (ren_id hn) (fun i j _ _ h => h) hN (fun _ _ => rfl) hv (fun i r hi => by simp [Meta.ws] at hi) (fun _ _ _ => rfl) (fun i r hi => by simp [Meta.ws] at hi)
  simpa using ht
def toEnd (i N : Nat) : Nat → Nat := fun j => if j = i then N else j
theorem toEnd_inj {i N : Nat} {a b : Nat} (ha : a < N) (hb : b < N) (h : toEnd i N a = toEnd i N b) : a = b := by
  unfold toEnd at h
  split at h <;> split at h <;> omega
theorem stNew {N i : Nat} {rd : List Nat} {T : Tm} {H : Heap} {op : Op} {v v1 : Value} {r : Row} (h : evOp C T H op = some (v1, H ++ [some r])) (hN : H.length = N) (ht : ((touch T op).all fun i => rd.contains i) = true) (hi : decide (i < N) = true)
    (hv1 : v1 = mpV (renId (toEnd i N)) v) (hv : ((idsV v).all fun i => decide (i < N)) = true) (hr : NMRow [i] r) (hcl : ∀ q, some r = some q → ∀ v ∈ q.cells, ∀ k ∈ idsS v, k < N) : StepW C N ⟨[i], [], rd⟩ T H op v (H.set i (some r)) := by
  simp only [decide_eq_true_eq] at hi
  have hfix : ∀ j, j ∉ [i] → toEnd i N j = j := fun j hj => by unfold toEnd; rw [if_neg (by simpa using hj)]
  refine stGen (toEnd i N) h hN (by simpa using ht) hfix hv1 (fun a b ha hb h => toEnd_inj ha hb h) (by simp [hN]) (fun j hj => ?_) hv (fun j q hj hq => ?_) (fun j hj hjN => List.getElem?_append_left (by omega)) (fun j q hj hq => ?_)
  · exact List.getElem?_set_ne (fun e => hj (by simp [Meta.ws, e]))
  · obtain rfl : j = i := by simpa [Meta.ws] using hj
    rw [List.getElem?_set_self (by omega)] at hq
    exact hcl q (by simpa using hq)
  · obtain rfl : j = i := by simpa [Meta.ws] using hj
    rw [List.getElem?_set_self (by omega)] at hq
    simp only [Option.some.injEq] at hq
    subst hq
    have e : toEnd j N j = N := by unfold toEnd; rw [if_pos rfl]
    rw [e, hr.ren hfix, List.getElem?_append_right (by omega), hN]
    simp
theorem stSet {N b : Nat} {rd : List Nat} {T : Tm} {H : Heap} {op : Op} {r : Row} {v : Value} (h : evOp C T H op = some (v, H.set b (some r))) (hN : H.length = N) (ht : ((touch T op).all fun i => [b].contains i || rd.contains i) = true) (hb : ((touch T op).contains b && decide (b < N)) = true)
    (hv : ((idsV v).all fun i => decide (i < N)) = true) (hn : nmV [] v = true) (hr : NMRow [] r) (hcl : ∀ q, some r = some q → ∀ v ∈ q.cells, ∀ k ∈ idsS v, k < N) : StepW C N ⟨[], [b], rd⟩ T H op v (H.set b (some r)) := by
  simp only [Bool.and_eq_true, decide_eq_true_eq, List.contains_eq_mem] at hb
  refine stGen id h hN ht (fun _ _ => rfl) (ren_id hn) (fun i j _ _ h => h) (by simp [hN]) (fun j hj => ?_) hv (fun j q hj hq => ?_) (fun j hj hjN => ?_) (fun j q hj hq => ?_)
  · exact List.getElem?_set_ne (fun e => hj (by simp [Meta.ws, e]))
  · obtain rfl : j = b := by simpa [Meta.ws] using hj
    rw [List.getElem?_set_self (by omega)] at hq
    exact hcl q (by simpa using hq)
  · exact List.getElem?_set_ne (fun e => hj (by simp [Meta.ws, e]))
  · obtain rfl : j = b := by simpa [Meta.ws] using hj
    refine ⟨?_, Or.inl hb.1⟩
    have hq2 := hq
    rw [List.getElem?_set_self (by omega)] at hq2
    simp only [Option.some.injEq] at hq2
    subst hq2
    show (H.set j (some r))[j]? = _
    rw [hr.ren (σ := id) (fun _ _ => rfl)]
    exact hq
theorem stApp {N i b : Nat} {rd : List Nat} {T : Tm} {H : Heap} {op : Op} {v v1 : Value} {r : Row} (h : evOp C T H op = some (v1, H.set b none ++ [some r])) (hN : H.length = N) (ht : ((touch T op).all fun i => [b].contains i || rd.contains i) = true) (hi : (decide (i < N) && !(i == b)) = true)
    (hv1 : v1 = mpV (renId (toEnd i N)) v) (hv : ((idsV v).all fun i => decide (i < N)) = true) (hr : NMRow [i] r) (hcl : ∀ q, some r = some q → ∀ v ∈ q.cells, ∀ k ∈ idsS v, k < N) : StepW C N ⟨[i], [b], rd⟩ T H op v ((H.set b none).set i (some r)) := by
  simp only [Bool.and_eq_true, decide_eq_true_eq, Bool.not_eq_true', beq_eq_false_iff_ne, ne_eq] at hi
  have hfix : ∀ j, j ∉ [i] → toEnd i N j = j := fun j hj => by unfold toEnd; rw [if_neg (by simpa using hj)]
  refine stGen (toEnd i N) h hN ht hfix hv1 (fun a b ha hb h => toEnd_inj ha hb h) (by simp [hN]) (fun j hj => ?_) hv (fun j q hj hq => ?_) (fun j hj hjN => ?_) (fun j q hj hq => ?_)
  · simp only [Meta.ws, List.mem_append, List.mem_singleton, not_or] at hj
    rw [List.getElem?_set_ne (fun e => hj.1 e.symm), List.getElem?_set_ne (fun e => hj.2 e.symm)]
  · simp only [Meta.ws, List.mem_append, List.mem_singleton] at hj
    rcases hj with rfl | rfl
    · rw [List.getElem?_set_self (by simp; omega)] at hq
      exact hcl q (by simpa using hq)
    · rw [List.getElem?_set_ne hi.2] at hq
      rcases Nat.lt_or_ge j H.length with h2 | h2
      · rw [List.getElem?_set_self h2] at hq; cases hq
      · rw [List.getElem?_eq_none (by simpa using h2)] at hq; cases hq
  · simp only [Meta.ws, List.mem_append, List.mem_singleton, not_or] at hj
    rw [List.getElem?_append_left (by simp; omega), List.getElem?_set_ne (fun e => hj.2 e.symm)]
  · simp only [Meta.ws, List.mem_append, List.mem_singleton] at hj
    rcases hj with rfl | rfl
    · rw [List.getElem?_set_self (by simp; omega)] at hq
      simp only [Option.some.injEq] at hq
      subst hq
      have e : toEnd j N j = N := by unfold toEnd; rw [if_pos rfl]
      rw [e, hr.ren hfix, List.getElem?_append_right (by simp; omega)]
      simp [hN]
    · rw [List.getElem?_set_ne hi.2] at hq
      rcases Nat.lt_or_ge j H.length with h2 | h2
      · rw [List.getElem?_set_self h2] at hq; cases hq
      · rw [List.getElem?_eq_none (by simpa using h2)] at hq; cases hq

def isHole (o : Option (Option Row)) : Bool := match o with
  | some none => true
  | _ => false
theorem StepW.more {N : Nat} {m m' : Meta} {T : Tm} {H H' : Heap} {op : Op} {v : Value} (h : StepW C N m T H op v H') (hs : ((m.mks.all fun i => m'.mks.contains i) && (m.wr.all fun i => m'.wr.contains i) && m.rd.all fun i => m'.rd.contains i) = true)
    (hx : (m'.ws.all fun i => m.ws.contains i || isHole H'[i]?) = true) : StepW C N m' T H op v H' := by
  simp only [Bool.and_eq_true, List.all_eq_true, List.contains_eq_mem, decide_eq_true_eq, Bool.or_eq_true] at hs hx
  obtain ⟨⟨h1, h2⟩, h3⟩ := hs
  obtain ⟨a1, a2, a3, a4, a5⟩ := h
  have hw : ∀ i, i ∈ m.ws → i ∈ m'.ws := fun i hi => by
    rcases List.mem_append.1 hi with hi | hi
    · exact List.mem_append_left _ (h1 i hi)
    · exact List.mem_append_right _ (h2 i hi)
  have hold : ∀ i r, i ∈ m'.ws → H'[i]? = some (some r) → i ∈ m.ws := fun i r hi hr => by
    rcases hx i hi with h | h
    · exact h
    · rw [hr] at h; cases h
  refine ⟨a1, fun i hi => a2 i fun h => hi (hw i h), a3, fun i r hi hr => a4 i r (hold i r hi hr) hr, fun T' G hT hG hag => ?_⟩
  obtain ⟨v1, G1, σ, b1, b2, b3, b4, b5, b6⟩ := a5 T' G hT hG fun i hi => hag i (by
    rcases List.mem_append.1 hi with hi | hi
    · exact List.mem_append_left _ (hw i hi)
    · exact List.mem_append_right _ (h3 i hi))
  exact ⟨v1, G1, σ, b1, fun i hi => b2 i fun h => hi (h1 i h), b3, fun i hi => b4 i fun h => hi (hw i h), fun i r hi hr => b5 i r (hold i r hi hr) hr, b6⟩

/-! ### calls -/
/-- what a call does wherever some rows are as they are here -/
def Any (N : Nat) (rd : List Nat) (H : Heap) (p : Heap → Prop) : Prop := ∀ G : Heap, G.length = N → (∀ i, i ∈ rd → G[i]? = H[i]?) → p G
theorem stQ {N : Nat} {rd : List Nat} {T : Tm} {H : Heap} {op : Op} {c : Call} {f : FuncId} {args : List Value} {v : Value} (ho : op = .call c) (hc : calleeOf T c = some (f, args)) (hS : Any N rd H fun G => Sound P f args G v G) (hN : H.length = N)
    (hv : ((idsV v).all fun i => decide (i < N)) = true) (hn : nmV [] v = true) : StepW C N ⟨[], [], rd⟩ T H op v H := by
  simp only [List.all_eq_true, decide_eq_true_eq] at hv
  refine ⟨hN, fun _ _ => rfl, hv, fun i r hi => by simp [Meta.ws] at hi, fun T' G hT hG hag => ?_⟩
  subst ho
  refine ⟨v, G, id, .call c f args rfl ?_ (hS G hG fun i hi => hag i (List.mem_append_right _ hi)), fun _ _ => rfl, ren_id hn, fun _ _ _ => rfl, fun i r hi => by simp [Meta.ws] at hi, fun i j _ _ h => h⟩
  rw [← hc]
  exact (calleeOf_congr fun x hx => hT x (by simpa only [Op.operands] using hx)).symm
/-- new rows, moved to where their places are -/
def toEnds (i k N : Nat) : Nat → Nat := fun j => if i ≤ j ∧ j < i + k then N + (j - i) else j
theorem toEnds_inj {i k N : Nat} {a b : Nat} (ha : a < N) (hb : b < N) (h : toEnds i k N a = toEnds i k N b) : a = b := by
  unfold toEnds at h
  split at h <;> split at h <;> omega
def putRows : Heap → Nat → Heap → Heap
  | H, _, [] => H
  | H, i, r :: E => putRows (H.set i r) (i + 1) E
theorem putRows_length : ∀ (E : Heap) (H : Heap) (i : Nat), (putRows H i E).length = H.length
  | [], _, _ => rfl
  | r :: E, H, i => by rw [putRows, putRows_length E]; simp
theorem putRows_out : ∀ (E : Heap) (H : Heap) (i j : Nat), (j < i ∨ i + E.length ≤ j) → (putRows H i E)[j]? = H[j]?
  | [], _, _, _, _ => rfl
  | r :: E, H, i, j, h => by
    rw [putRows, putRows_out E _ _ _ (by simp at h; omega), List.getElem?_set_ne (by simp at h; omega)]
theorem putRows_in : ∀ (E : Heap) (H : Heap) (i j : Nat), i + E.length ≤ H.length → i ≤ j → j < i + E.length → (putRows H i E)[j]? = E[j - i]?
  | [], _, i, j, _, h1, h2 => by simp at h2; omega
  | r :: E, H, i, j, hl, h1, h2 => by
    simp only [List.length_cons] at hl h2
    rw [putRows]
    rcases Nat.eq_or_lt_of_le h1 with h3 | h3
    · subst h3
      rw [putRows_out E _ _ _ (by omega), List.getElem?_set_self (by omega), Nat.sub_self]; rfl
    · rw [putRows_in E _ _ _ (by simp; omega) (by omega) (by omega), show j - i = (j - (i + 1)) + 1 by omega]; rfl
theorem stN {N i : Nat} {mk rd : List Nat} {T : Tm} {H E : Heap} {op : Op} {c : Call} {f : FuncId} {args : List Value} {v v1 : Value} (ho : op = .call c) (hc : calleeOf T c = some (f, args)) (hS : Any N rd H fun G => Sound P f args G v1 (G ++ E)) (hN : H.length = N) (hmk : (mk == List.range' i E.length) = true) (hi : decide (i + E.length ≤ N) = true)
    (hv1 : v1 = mpV (renId (toEnds i E.length N)) v) (hv : ((idsV v).all fun i => decide (i < N)) = true) (hE : FlatH E) : StepW C N ⟨mk, [], rd⟩ T H op v (putRows H i E) := by
  simp only [List.all_eq_true, decide_eq_true_eq, beq_iff_eq] at hv hi hmk
  subst hmk
  have hin : ∀ j, j ∈ List.range' i E.length ↔ i ≤ j ∧ j < i + E.length := fun j => by rw [List.mem_range'_1]
  have hfix : ∀ j, j ∉ List.range' i E.length → toEnds i E.length N j = j := fun j hj => by unfold toEnds; rw [if_neg (fun h => hj ((hin j).2 h))]
  have hat : ∀ j r, j ∈ List.range' i E.length → (putRows H i E)[j]? = some (some r) → E[j - i]? = some (some r) := fun j r hj h => by
    obtain ⟨h1, h2⟩ := (hin j).1 hj
    rwa [putRows_in E H i j (by omega) h1 h2] at h
  refine ⟨by rw [putRows_length, hN], fun j hj => ?_, hv, fun j r hj hr v hv k hk => ?_, fun T' G hT hG hag => ?_⟩
  · refine putRows_out E H i j ?_
    simp only [Meta.ws, List.append_nil] at hj
    rw [hin] at hj
    omega
  · simp only [Meta.ws, List.append_nil] at hj
    have := hE r (List.mem_of_getElem? (hat j r hj hr)) v hv
    rw [this.1] at hk; cases hk
  · subst ho
    refine ⟨v1, G ++ E, toEnds i E.length N, .call c f args rfl ?_ (hS G hG fun i hi => hag i (List.mem_append_right _ hi)), hfix, hv1, fun j _ hjN => List.getElem?_append_left (by omega), fun j r hj hr => ?_, fun a b ha hb h => toEnds_inj ha hb h⟩
    · rw [← hc]
      exact (calleeOf_congr fun x hx => hT x (by simpa only [Op.operands] using hx)).symm
    · simp only [Meta.ws, List.append_nil] at hj
      have h3 := hat j r hj hr
      obtain ⟨h1, h2⟩ := (hin j).1 hj
      have e : toEnds i E.length N j = N + (j - i) := by unfold toEnds; rw [if_pos ⟨h1, h2⟩]
      rw [e, (hE r (List.mem_of_getElem? h3)).ren, List.getElem?_append_right (by omega), hG, Nat.add_sub_cancel_left]
      exact h3
theorem stS {N s : Nat} {rd : List Nat} {T : Tm} {H : Heap} {op : Op} {c : Call} {f : FuncId} {args : List Value} {v : Value} {r : Row} (ho : op = .call c) (hc : calleeOf T c = some (f, args)) (hS : Any N (s :: rd) H fun G => Sound P f args G v (G.set s (some r))) (hN : H.length = N) (hs : decide (s < N) = true)
    (hv : ((idsV v).all fun i => decide (i < N)) = true) (hn : nmV [] v = true) (hr : FlatRow r) : StepW C N ⟨[], [s], rd⟩ T H op v (H.set s (some r)) := by
  simp only [List.all_eq_true, decide_eq_true_eq] at hv hs
  refine ⟨by simp [hN], fun j hj => ?_, hv, fun j q hj hq v hv k hk => ?_, fun T' G hT hG hag => ?_⟩
  · exact List.getElem?_set_ne (fun e => hj (by simp [Meta.ws, e]))
  · obtain rfl : j = s := by simpa [Meta.ws] using hj
    rw [List.getElem?_set_self (by omega)] at hq
    simp only [Option.some.injEq] at hq
    subst hq
    rw [(hr v hv).1] at hk; cases hk
  · subst ho
    refine ⟨v, G.set s (some r), id, .call c f args rfl ?_ (hS G hG fun i hi => hag i ?_), fun _ _ => rfl, ren_id hn, fun j hj _ => List.getElem?_set_ne (fun e => hj (by simp [Meta.ws, e])), fun j q hj hq => ?_, fun i j _ _ h => h⟩
    · rw [← hc]
      exact (calleeOf_congr fun x hx => hT x (by simpa only [Op.operands] using hx)).symm
    · rcases List.mem_cons.1 hi with rfl | hi
      · exact List.mem_append_left _ (by simp [Meta.ws])
      · exact List.mem_append_right _ hi
    · obtain rfl : j = s := by simpa [Meta.ws] using hj
      rw [List.getElem?_set_self (by omega)] at hq
      simp only [Option.some.injEq] at hq
      subst hq
      rw [hr.ren]
      exact List.getElem?_set_self (by omega)

/-! ### the rules of a walk -/
variable {ops : Array Oper} {ms : List Meta} {N : Nat}
theorem rW {i : Nat} {K : Tm → Heap → Prop} {o : Oper} {r : List Oper} {T : Tm} {H H' : Heap} {v : Value} {m : Meta} (hm : ms.getD i ⟨[], [], []⟩ = m) (hw : want? T ops o = some true) (hst : StepW C N m T H o.op v H') (hn : nmV (hid ops ms i) v = true)
    (hr : ∀ j q, j ∈ m.ws → H'[j]? = some (some q) → NMRow (hid ops ms i) q) (hk : sOpsW C ops ms N r (i + 1) (putT T o.dst v) H' K) : sOpsW C ops ms N (o :: r) i T H K := by
  subst hm
  simp only [sOpsW, hw]
  exact ⟨fun _ => ⟨v, H', ⟨hst, hn, hr⟩, hk⟩, fun h => by cases h⟩
theorem nr0 {rd : List Nat} {H' : Heap} {hidl : List Nat} : ∀ j q, j ∈ (Meta.mk [] [] rd).ws → H'[j]? = some (some q) → NMRow hidl q := fun j q h => by simp [Meta.ws] at h
/-- the rows that a step made or changed: one by one -/
def NRs (hl : List Nat) (H : Heap) : List Nat → Prop
  | [] => True
  | j :: l => (∀ q, H[j]? = some (some q) → NMRow hl q) ∧ NRs hl H l
theorem NRs.all {hl : List Nat} {H : Heap} : ∀ {l : List Nat}, NRs hl H l → ∀ j q, j ∈ l → H[j]? = some (some q) → NMRow hl q
  | [], _, j, q, hj, _ => by simp at hj
  | i :: l, h, j, q, hj, hq => by
    rcases List.mem_cons.1 hj with rfl | hj
    · exact h.1 q hq
    · exact h.2.all j q hj hq
theorem nrOf {hl : List Nat} {H : Heap} {j : Nat} {r : Row} (h : H[j]? = some (some r)) (hr : NMRow hl r) : ∀ q, H[j]? = some (some q) → NMRow hl q := fun q hq => by
  rw [h] at hq
  simp only [Option.some.injEq] at hq
  exact hq ▸ hr
theorem nrNone {hl : List Nat} {H : Heap} {j : Nat} (h : H[j]? = some none) : ∀ q, H[j]? = some (some q) → NMRow hl q := fun q hq => by
  rw [h] at hq; cases hq

def evRW (C : Ctx P) (ops : Array Oper) (ms : List Meta) (N : Nat) : Nat → List Oper → Nat → Tm → Heap → Option (Tm × Heap)
  | 0, _, _, T, H => some (T, H)
  | _ + 1, [], _, T, H => some (T, H)
  | k + 1, o :: r, i, T, H => match want? T ops o with
    | some true => match evOp C T H o.op with
      | some (v, H') => match ms.getD i ⟨[], [], []⟩ with
        | ⟨[], [], rd⟩ => if (isPure o.op || (isRead o.op && H'.length == H.length)) && ((touch T o.op).all fun i => rd.contains i) && ((idsV v).all fun i => decide (i < N)) && nmV (hid ops ms i) v && (H.length == N) then evRW C ops ms N k r (i + 1) (putT T o.dst v) H else none
        | _ => none
      | none => none
    | some false => evRW C ops ms N k r (i + 1) (putT T o.dst undef) H
    | none => none
theorem segW {K : Tm → Heap → Prop} {T1 : Tm} {H1 : Heap} : ∀ (k : Nat) {l : List Oper} {i : Nat} {T : Tm} {H : Heap}, evRW C ops ms N k l i T H = some (T1, H1) → sOpsW C ops ms N (l.drop k) (i + min k l.length) T1 H1 K → sOpsW C ops ms N l i T H K
  | 0, l, i, T, H, h, hk => by simp only [evRW, Option.some.injEq, Prod.mk.injEq] at h; obtain ⟨rfl, rfl⟩ := h; simpa using hk
  | k + 1, [], i, T, H, h, hk => by simp only [evRW, Option.some.injEq, Prod.mk.injEq] at h; obtain ⟨rfl, rfl⟩ := h; simpa using hk
  | k + 1, o :: r, i, T, H, h, hk => by
    simp only [evRW] at h
    have e : i + min (k + 1) (o :: r).length = (i + 1) + min k r.length := by simp only [List.length_cons]; omega
    rw [e] at hk
    split at h
    · rename_i hw
      split at h
      · rename_i v H' he
        split at h
        · rename_i rd hm
          split at h
          · rename_i hc
            simp only [Bool.and_eq_true, Bool.or_eq_true, beq_iff_eq] at hc
            obtain ⟨⟨⟨⟨hpr, ht⟩, hv⟩, hn⟩, hN⟩ := hc
            have hH : H' = H := by
              rcases hpr with hp | ⟨hr, hl⟩
              · exact (evOp_pure hp he).1
              · exact evOp_slice_len hr he hl
            subst hH
            exact rW hm hw (stId he hN ht hv (nmV_mono (fun _ h => by simp at h) hn)) hn (fun j q hj => by simp [Meta.ws] at hj) (segW k h hk)
          · cases h
        · cases h
      · cases h
    · rename_i hw
      simp only [sOpsW, hw]
      exact ⟨fun h => (by cases h), fun _ => segW k h hk⟩
    · cases h
theorem segEndW {K : Exit → Tm → Heap → Prop} (ks : List Nat) {T1 : Tm} {H1 : Heap} {l : List Oper} {i : Nat} {T : Tm} {H : Heap}
    (h : ((evRW C ops ms N l.length l i T H).map fun p => (keepT ks p.1, p.2)) = some (T1, H1)) (hk : K .normal T1 H1) : sOpsW C ops ms N l i T H (Less K .normal) := by
  cases he : evRW C ops ms N l.length l i T H with
  | none => rw [he] at h; cases h
  | some p =>
    rw [he] at h
    simp only [Option.map_some, Option.some.injEq, Prod.mk.injEq] at h
    obtain ⟨rfl, rfl⟩ := h
    refine segW l.length he ?_
    simp only [List.drop_length, sOpsW]
    exact ⟨_, sub_keep ks _, hk⟩
/-- no row of a memory names the rows to come -/
def NMs (mk : List Nat) : Heap → Prop
  | [] => True
  | o :: l => (∀ r, o = some r → NMRow mk r) ∧ NMs mk l
theorem NMs.at {mk : List Nat} : ∀ {l : Heap} {i : Nat} {r : Row}, NMs mk l → l[i]? = some (some r) → NMRow mk r
  | [], i, r, _, h => by simp at h
  | o :: l, 0, r, h, hi => by simp at hi; exact h.1 r hi
  | o :: l, i + 1, r, h, hi => NMs.at h.2 (by simpa using hi)
theorem nmsF {mk : List Nat} {r : Row} (h : FlatRow r) : ∀ q, some r = some q → NMRow mk q := fun q hq => by simp only [Option.some.injEq] at hq; subst hq; exact nmF h
theorem nmsX {mk : List Nat} {r : Row} (h : (r.cells.all (nmS mk)) = true) : ∀ q, some r = some q → NMRow mk q := fun q hq => by simp only [Option.some.injEq] at hq; subst hq; exact nmX h
theorem nmsN {mk : List Nat} : ∀ q, (none : Option Row) = some q → NMRow mk q := fun q hq => by cases hq
theorem cRegW {id n : Nat} {T : Tm} {H Hp : Heap} {K : Exit → Tm → Heap → Prop} (ms : List Meta) (m : Nat) (all : List Nat) (hlen : H.length + m = N) (hpad : H ++ List.replicate m none = Hp) (hOK : regionOK2 ops ms = true) (hlow : (ms.all fun x => x.mks.all fun i => decide (n ≤ i) && all.contains i) = true)
    (hT : (T.all fun o => match o with
      | some v => nmV all v
      | none => true) = true) (hH : NMs all H) (h : sOpsW C ops ms N ops.toList 0 T Hp (Less K .normal)) : sC C n (.region id ops true) T H K := by
  simp only [List.all_eq_true, Bool.and_eq_true, decide_eq_true_eq, List.contains_eq_mem] at hlow
  refine Or.inr fun ρ0 ρ H0 w0 w a hn hi => ?_
  have hmk : ∀ k, ∀ i ∈ (ms.getD k ⟨[], [], []⟩).mks, n ≤ i ∧ i ∈ all := fun k i hi => by
    rcases Nat.lt_or_ge k ms.length with hk | hk
    · rw [List.getD_eq_getElem?_getD, List.getElem?_eq_getElem hk] at hi
      exact hlow _ (List.getElem_mem hk) i hi
    · rw [List.getD_eq_getElem?_getD, List.getElem?_eq_none hk] at hi
      simp at hi
  subst hpad hlen
  refine draw_sound2 (K := Less K) (m := m) (ms := ms) hOK (fun k _ i hi => by rw [hn]; exact (hmk k i hi).1) (fun k _ t v hv => ?_) (fun k _ i r hr => ?_) h hi
  · have := List.all_eq_true.1 hT (some v) (List.mem_of_getElem? hv)
    exact nmV_mono (fun i hi => (hmk k i hi).2) this
  · rcases Nat.lt_or_ge i H.length with h1 | h1
    · rw [List.getElem?_append_left h1] at hr
      exact (hH.at hr).mono fun i hi => (hmk k i hi).2
    · rw [List.getElem?_append_right h1, List.getElem?_replicate] at hr
      split at hr <;> simp at hr

/-! ### segments that leave memory as it is -/
theorem segWH {K : Tm → Heap → Prop} {T1 : Tm} (k : Nat) {l : List Oper} {i : Nat} {T : Tm} {H : Heap} (h : evRW C ops ms N k l i T H = some (T1, H)) (hk : sOpsW C ops ms N (l.drop k) (i + min k l.length) T1 H K) : sOpsW C ops ms N l i T H K := segW k h hk
theorem segEndWH {K : Exit → Tm → Heap → Prop} (ks : List Nat) {T1 : Tm} {l : List Oper} {i : Nat} {T : Tm} {H : Heap}
    (h : ((evRW C ops ms N l.length l i T H).map fun p => (keepT ks p.1, p.2)) = some (T1, H)) (hk : K .normal T1 H) : sOpsW C ops ms N l i T H (Less K .normal) := segEndW ks h hk
theorem segH {K : Tm → Heap → Prop} {T1 : Tm} (k : Nat) {l : List Oper} {T : Tm} {H : Heap} (h : evR C ops k l T H = some (T1, H)) (hk : sOps C ops (l.drop k) T1 H K) : sOps C ops l T H K := seg k h hk
theorem segEndH {K : Exit → Tm → Heap → Prop} (ks : List Nat) {T1 : Tm} {l : List Oper} {T : Tm} {H : Heap}
    (h : ((evR C ops l.length l T H).map fun p => (keepT ks p.1, p.2)) = some (T1, H)) (hk : K .normal T1 H) : sOps C ops l T H (Less K .normal) := segEnd ks h hk
end
end Go.Am
