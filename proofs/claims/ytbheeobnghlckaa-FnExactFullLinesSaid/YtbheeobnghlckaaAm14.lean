/- The frame of all our walks, part 14: a region whose order is open: the machine, in whatever order. No condition. -/
import Derived.Test.YtbheeobnghlckaaAm13
set_option linter.unusedVariables false
set_option linter.unusedSimpArgs false
namespace Go.Am
open Go.RowKit

/-- a region's run in the text's order -/
structure DRun {P : Program} (C : Ctx P) (ops : Array Oper) (T0 : Tm) (vs : Nat → Value) (Hs : Nat → Heap) : Prop where
  ok : regionOK C ops = true
  step : ∀ i o, ops[i]? = some o → ∃ b, want? (TD ops.toList 0 vs (fun k => decide (k < i)) T0) ops o = some b ∧
    (b = true → StepD C (TD ops.toList 0 vs (fun k => decide (k < i)) T0) (Hs i) o.op (vs i) (Hs (i + 1))) ∧ (b = false → vs i = undef ∧ Hs (i + 1) = Hs i)

def isNS (c : Cls) : Prop := c = .N ∨ c = .S

section
variable {P : Program} {C : Ctx P} {ops : Array Oper} {T0 : Tm} {vs : Nat → Value} {Hs : Nat → Heap}

theorem DRun.edge (h : DRun C ops T0 vs Hs) {j : Nat} {o : Oper} (ho : ops[j]? = some o) : ∀ e ∈ o.after, Region.binds .any e = true → e.on < j := by
  have hlt : j < ops.size := (Array.getElem?_eq_some_iff.1 ho).1
  have := h.ok
  simp only [regionOK, List.all_eq_true, List.mem_range] at this
  have := this j hlt
  rw [ho] at this
  simp only [Bool.and_eq_true] at this
  intro e he hb
  have := Array.all_eq_true_iff_forall_mem.1 this.1 e he
  simpa [hb] using this

theorem DRun.pair (h : DRun C ops T0 vs Hs) {i j : Nat} {oi oj : Oper} (hi : ops[i]? = some oi) (hj : ops[j]? = some oj) (hij : i < j) (hc : conflict C ops oi oj = true) : reach (masksGo ops.toList []) i j = true := by
  have hlt : j < ops.size := (Array.getElem?_eq_some_iff.1 hj).1
  have := h.ok
  simp only [regionOK, List.all_eq_true, List.mem_range] at this
  have := this j hlt
  rw [hj] at this
  simp only [Bool.and_eq_true, List.all_eq_true, List.mem_range] at this
  have := this.2 i hij
  rw [hi] at this
  simpa [hc] using this

/-- behind an operation that neither makes nor changes memory is as it was -/
theorem DRun.same (h : DRun C ops T0 vs Hs) {i : Nat} {o : Oper} (ho : ops[i]? = some o) (hn : ¬ isNS (clsOf C o.op)) : Hs (i + 1) = Hs i := by
  obtain ⟨b, _, h1, h2⟩ := h.step i o ho
  cases b with
  | false => exact (h2 rfl).2
  | true =>
    have := h1 rfl
    unfold StepD at this
    cases hc : clsOf C o.op with
    | P =>
      rw [hc] at this
      simp only at this
      have hp : isPure o.op = true := by
        unfold clsOf at hc
        split at hc
        · assumption
        · split at hc
          · cases hc
          · split at hc <;> first
              | cases hc
              | skip
            rename_i f _ _ _
            unfold evOp at this
            simp_all
      exact (evOp_pure hp this).1
    | Q => rw [hc] at this; exact this.1
    | N => exact absurd (Or.inl hc) hn
    | S => exact absurd (Or.inr hc) hn

theorem DRun.grows (h : DRun C ops T0 vs Hs) {i : Nat} {o : Oper} (ho : ops[i]? = some o) (hn : clsOf C o.op ≠ .S) : ∃ E, Hs (i + 1) = Hs i ++ E := by
  by_cases hN : clsOf C o.op = .N
  · obtain ⟨b, _, h1, h2⟩ := h.step i o ho
    cases b with
    | false => exact ⟨[], by simp [(h2 rfl).2]⟩
    | true =>
      have := h1 rfl
      unfold StepD at this
      rw [hN] at this
      obtain ⟨E, he, _⟩ := this
      exact ⟨E, he⟩
  · exact ⟨[], by rw [h.same ho (by rintro (h | h) <;> contradiction)]; simp⟩

theorem DRun.span (h : DRun C ops T0 vs Hs) (i : Nat) : ∀ d, i + d ≤ ops.size → (∀ k o, i ≤ k → k < i + d → ops[k]? = some o → ¬ isNS (clsOf C o.op)) → Hs (i + d) = Hs i
  | 0, _, _ => rfl
  | d + 1, hd, hn => by
    have hlt : i + d < ops.size := by omega
    have ho : ops[i + d]? = some ops[i + d] := Array.getElem?_eq_getElem hlt
    rw [show i + (d + 1) = i + d + 1 by omega, h.same ho (hn _ _ (by omega) (by omega) ho)]
    exact h.span i d (by omega) fun k o h1 h2 => hn k o h1 (by omega)

theorem DRun.spanE (h : DRun C ops T0 vs Hs) (i : Nat) : ∀ d, i + d ≤ ops.size → (∀ k o, i ≤ k → k < i + d → ops[k]? = some o → clsOf C o.op ≠ .S) → ∃ E, Hs (i + d) = Hs i ++ E
  | 0, _, _ => ⟨[], by simp⟩
  | d + 1, hd, hn => by
    have hlt : i + d < ops.size := by omega
    have ho : ops[i + d]? = some ops[i + d] := Array.getElem?_eq_getElem hlt
    obtain ⟨E1, h1⟩ := h.spanE i d (by omega) fun k o h1 h2 => hn k o h1 (by omega)
    obtain ⟨E2, h2⟩ := h.grows ho (hn _ _ (by omega) (by omega) ho)
    exact ⟨E1 ++ E2, by rw [show i + (d + 1) = i + d + 1 by omega, h2, h1, List.append_assoc]⟩
end

def Lst (listed : Array Bool) (i : Nat) : Prop := listed.getD i false = true

structure DInv {P : Program} (C : Ctx P) (ops : Array Oper) (T0 : Tm) (vs : Nat → Value) (Hs : Nat → Heap) (ρ0 : Ren) (H0 : Heap) (w0 : World) (listed : Array Bool) (ρ : Ren) (m : Nat) (a : Act) (w : World) : Prop where
  size : listed.size = ops.size
  cl : ∀ (j : Nat) (o : Oper), ops[j]? = some o → Lst listed j → ∀ e ∈ o.after, Region.binds .any e = true → Lst listed e.on
  mle : m ≤ ops.size
  ns : ∀ (i : Nat) (o : Oper), ops[i]? = some o → isNS (clsOf C o.op) → (Lst listed i ↔ i < m)
  adv : Adv P ρ0 H0 w0 ρ (Hs m) w
  clH : ∀ i, i ≤ m → Closed (Hs i)
  rt : RT ρ (Hs m).length (TD ops.toList 0 vs (fun k => listed.getD k false) T0) a
  df : a.defers = []

theorem getT_congr {T T' : Tm} {t : Nat} (h : T[t]? = T'[t]?) : getT T t = getT T' t := by unfold getT; rw [h]

theorem want_congr {T T' : Tm} {ops : Array Oper} {o : Oper} (h : ∀ t ∈ o.looksAt ops, T[t]? = T'[t]?) : want? T ops o = want? T' ops o := by
  unfold want?
  split
  · rfl
  · rename_i j c hg
    split
    · rfl
    · rename_i t hd
      rw [getT_congr (h t (by simp [Oper.looksAt, hg, hd]))]

theorem operand_congr {T T' : Tm} {ops : Array Oper} {o : Oper} (h : ∀ t ∈ o.looksAt ops, T[t]? = T'[t]?) : ∀ x ∈ o.op.operands, evalO T x = evalO T' x := by
  intro x hx
  cases x with
  | tmp t =>
    simp only [evalO]
    exact getT_congr (h t (List.mem_append_left _ (List.mem_filterMap.2 ⟨.tmp t, by simpa using hx, rfl⟩)))
  | _ => rfl

theorem lst_set {listed : Array Bool} {i j : Nat} (hi : i < listed.size) : Lst (listed.setIfInBounds i true) j ↔ (Lst listed j ∨ j = i) := by
  unfold Lst
  by_cases hij : i = j
  · subst hij; simp [hi]
  · simp only [Array.getD_eq_getD_getElem?]
    rw [Array.getElem?_setIfInBounds_ne hij]
    constructor
    · exact fun h => Or.inl h
    · rintro (h | h)
      · exact h
      · exact absurd h.symm hij

theorem count_set : ∀ {l : List Bool} {i : Nat}, l[i]? = some false → (l.set i true).count false + 1 = l.count false
  | [], i, h => by simp at h
  | b :: l, 0, h => by simp at h; subst h; simp
  | b :: l, i + 1, h => by
    have := count_set (l := l) (i := i) (by simpa using h)
    simp only [List.set_cons_succ, List.count_cons]
    omega

/-- one operation that may come up now -/
theorem DInv.go {P : Program} {C : Ctx P} {ops : Array Oper} {T0 : Tm} {vs : Nat → Value} {Hs : Nat → Heap} {ρ0 : Ren} {H0 : Heap} {w0 : World} (dr : DRun C ops T0 vs Hs) {listed : Array Bool} {ρ : Ren} {m : Nat} {a : Act} {w : World}
    (h : DInv C ops T0 vs Hs ρ0 H0 w0 listed ρ m a w) {j : Nat} (hj : j ∈ Region.ready .any ops listed) {K : Act → World → Prop} {Q : Exit → Act → World → Prop}
    (hK : ∀ ρ' m' a' w', DInv C ops T0 vs Hs ρ0 H0 w0 (listed.setIfInBounds j true) ρ' m' a' w' → K a' w') : wpOp P ops Q j K a w := by
  obtain ⟨hun, o, ho, hall⟩ := mem_ready.1 hj
  have hjlt : j < ops.size := (Array.getElem?_eq_some_iff.1 ho).1
  have hjl : j < listed.size := by rw [h.size]; exact hjlt
  have hnl : ¬ Lst listed j := by
    unfold Lst
    simp only [Array.getD_eq_getD_getElem?, Array.getElem?_eq_getElem hjl, Option.getD_some] at hun ⊢
    simp [hun]
  have hed : ∀ e ∈ o.after, Region.binds .any e = true → Lst listed e.on := hall
  -- whoever must stand before j does; nobody that must stand behind j does
  have before : ∀ i oi, ops[i]? = some oi → i < j → conflict C ops oi o = true → Lst listed i := fun i oi hi hij hc =>
    reach_spec (D := Lst listed) h.cl j i o ho hed (dr.pair hi ho hij hc)
  have behind : ∀ i oi, ops[i]? = some oi → j < i → conflict C ops o oi = true → ¬ Lst listed i := fun i oi hi hij hc hl =>
    hnl (reach_spec (D := Lst listed) h.cl i j oi hi (h.cl i oi hi hl) (dr.pair ho hi hij hc))
  have decl : ∀ i, (listed.getD i false = decide (i < j)) ↔ (Lst listed i ↔ i < j) := fun i => by
    unfold Lst
    cases listed.getD i false <;> simp
  have slot : ∀ t ∈ o.looksAt ops, (TD ops.toList 0 vs (fun k => listed.getD k false) T0)[t]? = (TD ops.toList 0 vs (fun k => decide (k < j)) T0)[t]? := by
    intro t ht
    refine TD_same _ _ _ _ _ _ _ t rfl rfl fun i oi hi hd => ?_
    have hi' : ops[i]? = some oi := by simpa using hi
    rw [Nat.zero_add]
    rw [decl]
    rcases Nat.lt_trichotomy i j with hlt | rfl | hgt
    · exact ⟨fun _ => hlt, fun _ => before i oi hi' hlt (by simp only [conflict, hd]; simp [ht])⟩
    · exact ⟨fun hl => absurd hl hnl, fun h => absurd h (by omega)⟩
    · exact ⟨fun hl => absurd hl (behind i oi hi' hgt (by simp only [conflict, hd]; simp [ht])), fun h => absurd h (by omega)⟩
  obtain ⟨b, hb, hb1, hb2⟩ := dr.step j o ho
  have hwant : want? (TD ops.toList 0 vs (fun k => listed.getD k false) T0) ops o = some b := by rw [want_congr slot]; exact hb
  have hwreal := want_sound h.rt hwant
  -- the slots behind j
  have after_ : ∀ {ρ' : Ren} {n : Nat} {a' : Act}, RT ρ' n (TD ops.toList 0 vs (fun k => listed.getD k false) T0) a' → (∀ i ∈ idsV (vs j), i < n) →
      RT ρ' n (TD ops.toList 0 vs (fun k => (listed.setIfInBounds j true).getD k false) T0) (a'.put o.dst (mapV ρ' (vs j))) := by
    intro ρ' n a' hrt hv
    have hp := hrt.put o.dst hv
    have key : ∀ t : Nat, (TD ops.toList 0 vs (fun k => (listed.setIfInBounds j true).getD k false) T0)[t]? = (putT (TD ops.toList 0 vs (fun k => listed.getD k false) T0) o.dst (vs j))[t]? := by
      intro t
      by_cases hd : o.dst = some t
      · rw [hd]
        rcases Nat.lt_or_ge t T0.length with hlt | hge
        · rw [putT_self _ _ _ (by rw [TD_length]; exact hlt)]
          have := TD_last ops.toList 0 vs (fun k => (listed.setIfInBounds j true).getD k false) T0 t j o (by simpa using ho) hd (by simp [hjl]) hlt fun i oi hi hdi hij => by
            have hi' : ops[i]? = some oi := by simpa using hi
            have hnot := behind i oi hi' hij (by simp [conflict, hd, hdi])
            rw [Nat.zero_add]
            have h1 : ¬ Lst (listed.setIfInBounds j true) i := by
              rw [lst_set hjl]
              rintro (h | h)
              · exact hnot h
              · omega
            unfold Lst at h1
            simpa using h1
          rw [Nat.zero_add] at this
          exact this
        · rw [List.getElem?_eq_none (by rw [TD_length]; exact hge), List.getElem?_eq_none (by rw [length_putT, TD_length]; exact hge)]
      · rw [putT_at _ _ _ _ hd]
        refine TD_same _ _ _ _ _ _ _ t rfl rfl fun i oi hi hdi => ?_
        have hne : j ≠ i := by
          rintro rfl
          have hi' : ops[j]? = some oi := by simpa using hi
          rw [ho] at hi'
          cases hi'
          exact hd hdi
        rw [Nat.zero_add]
        simp only [Array.getD_eq_getD_getElem?]
        rw [Array.getElem?_setIfInBounds_ne hne]
    refine ⟨?_, fun t v hv' => ?_, fun t v hv' => ?_⟩
    · rw [hp.size, length_putT, TD_length, TD_length]
    · rw [key] at hv'; exact hp.at_ t v hv'
    · rw [key] at hv'; exact hp.cl t v hv'
  have hcl' : ∀ (k : Nat) (ok : Oper), ops[k]? = some ok → Lst (listed.setIfInBounds j true) k → ∀ e ∈ ok.after, Region.binds .any e = true → Lst (listed.setIfInBounds j true) e.on := by
    intro k ok hk hl e he hbn
    rw [lst_set hjl] at hl ⊢
    rcases hl with hl | rfl
    · exact Or.inl (h.cl k ok hk hl e he hbn)
    · rw [ho] at hk; cases hk
      exact Or.inl (hed e he hbn)
  have hsz' : (listed.setIfInBounds j true).size = ops.size := by simp [h.size]
  unfold wpOp
  rw [ho]
  simp only
  rw [hwreal]
  -- a step that leaves memory as the text has it at m
  have stay : ∀ {ρ' : Ren} {a' : Act} {w' : World}, ¬ isNS (clsOf C o.op) → Adv P ρ (Hs m) w ρ' (Hs m) w' → (∀ i ∈ idsV (vs j), i < (Hs m).length) → K (a.put o.dst (mapV ρ' (vs j))) w' := by
    intro ρ' a' w' hns ad hv
    refine hK ρ' m _ w' ⟨hsz', hcl', h.mle, ?_, h.adv.trans ad, h.clH, after_ (h.rt.adv ad) hv, by rw [put_defers]; exact h.df⟩
    intro i oi hi hisn
    rw [lst_set hjl]
    constructor
    · rintro (hl | rfl)
      · exact (h.ns i oi hi hisn).1 hl
      · rw [ho] at hi; cases hi; exact absurd hisn hns
    · exact fun hl => Or.inl ((h.ns i oi hi hisn).2 hl)
  -- where an operation that makes or changes memory comes up, memory is as the text has it
  have atNS : isNS (clsOf C o.op) → m ≤ j ∧ Hs j = Hs m := by
    intro hns
    have hm : m ≤ j := by
      rcases Nat.lt_or_ge j m with hlt | hge
      · exact absurd ((h.ns j o ho hns).2 hlt) hnl
      · exact hge
    refine ⟨hm, ?_⟩
    obtain ⟨d, rfl⟩ : ∃ d, j = m + d := ⟨j - m, by omega⟩
    refine dr.span m d (by omega) fun k ok h1 h2 hk hkn => ?_
    have hl : Lst listed k := before k ok hk h2 (by
      have : clsConf (clsOf C ok.op) (clsOf C o.op) = true := by
        rcases hkn with hkn | hkn <;> rcases hns with hns | hns <;> rw [hkn, hns] <;> rfl
      simp [conflict, this])
    have := (h.ns k ok hk hkn).1 hl
    omega
  cases b with
  | false =>
    rw [if_neg (by simp)]
    obtain ⟨hv, hs⟩ := hb2 rfl
    have hu : ∀ ρ : Ren, mapV ρ (vs j) = undef := fun ρ => by rw [hv]; simp [undef, mapV, mpV]
    by_cases hns : isNS (clsOf C o.op)
    · obtain ⟨hm, hH⟩ := atNS hns
      have := after_ (ρ' := ρ) (n := (Hs m).length) (a' := a) h.rt (by rw [hv]; simp [undef, idsV])
      rw [hu] at this
      refine hK ρ (j + 1) _ w ⟨hsz', hcl', by omega, ?_, by rw [hs, hH]; exact h.adv, ?_, by rw [hs, hH]; exact this, by rw [put_defers]; exact h.df⟩
      · intro i oi hi hisn
        rw [lst_set hjl]
        constructor
        · rintro (hl | rfl)
          · have := (h.ns i oi hi hisn).1 hl; omega
          · omega
        · intro hlt
          rcases Nat.lt_or_ge i j with h1 | h1
          · exact Or.inl (before i oi hi h1 (by
              have : clsConf (clsOf C oi.op) (clsOf C o.op) = true := by
                rcases hisn with hkn | hkn <;> rcases hns with hns | hns <;> rw [hkn, hns] <;> rfl
              simp [conflict, this]))
          · exact Or.inr (by omega)
      · intro i hi
        rcases Nat.lt_or_ge i m with h1 | h1
        · exact h.clH i (by omega)
        · have : Hs i = Hs m := by
            rcases Nat.lt_or_ge j i with h2 | h2
            · have : i = j + 1 := by omega
              rw [this, hs, hH]
            · obtain ⟨d, rfl⟩ : ∃ d, i = m + d := ⟨i - m, by omega⟩
              refine dr.span m d (by omega) fun k ok h3 h4 hk hkn => ?_
              have hl : Lst listed k := before k ok hk (by omega) (by
                have : clsConf (clsOf C ok.op) (clsOf C o.op) = true := by
                  rcases hkn with hkn | hkn <;> rcases hns with hns | hns <;> rw [hkn, hns] <;> rfl
                simp [conflict, this])
              have := (h.ns k ok hk hkn).1 hl
              omega
          rw [this]
          exact h.clH m (Nat.le_refl _)
    · have := stay (ρ' := ρ) (a' := a) (w' := w) hns (Adv.refl h.adv.rep) (by rw [hv]; simp [undef, idsV])
      rw [hu] at this
      exact this
  | true =>
    rw [if_pos rfl]
    have hst := hb1 rfl
    unfold StepD at hst
    have ocg := operand_congr slot
    have ocg' : ∀ x ∈ o.op.operands, evalO (TD ops.toList 0 vs (fun k => decide (k < j)) T0) x = evalO (TD ops.toList 0 vs (fun k => listed.getD k false) T0) x := fun x hx => (ocg x hx).symm
    cases hc : clsOf C o.op with
    | P =>
      rw [hc] at hst
      simp only at hst
      have hsame : Hs (j + 1) = Hs j := dr.same ho (by rw [hc]; rintro (h | h) <;> cases h)
      have hp : isPure o.op = true := by
        unfold clsOf at hc
        split at hc
        · assumption
        · split at hc
          · cases hc
          · split at hc <;> first
              | cases hc
              | skip
            unfold evOp at hst
            simp_all
      have hev := (evOp_pure hp hst).2 (Hs m)
      rw [evOp_congr ocg'] at hev
      refine Or.inl (does_sound h.adv.rep h.rt (.op hev) fun ρ' w' ad hv => stay (a' := a) (by rw [hc]; rintro (h | h) <;> cases h) ad hv)
    | Q =>
      rw [hc] at hst
      simp only at hst
      obtain ⟨hsame, hq⟩ := hst
      have hids : ∀ (x : Operand) (u : Value), evalO (TD ops.toList 0 vs (fun k => listed.getD k false) T0) x = some u → ∀ i ∈ idsV u, i < (Hs m).length := fun x u hu => (evalO_sound h.rt hu).2
      have hdoes : Does C (TD ops.toList 0 vs (fun k => listed.getD k false) T0) (Hs m) o.op (vs j) (Hs m) := by
        rcases Nat.lt_or_ge j m with hlt | hge
        · obtain ⟨d, hd⟩ : ∃ d, m = j + d := ⟨m - j, by omega⟩
          obtain ⟨E, hE⟩ := dr.spanE j d (by rw [← hd]; exact h.mle) fun k ok h1 h2 hk hS => by
            rcases Nat.eq_or_lt_of_le h1 with rfl | h1
            · rw [ho] at hk; cases hk; rw [hc] at hS; cases hS
            · have hl := (h.ns k ok hk (Or.inr hS)).2 (by omega)
              exact behind k ok hk h1 (by simp [conflict, hc, hS, clsConf]) hl
          rw [← hd] at hE
          rw [hE]
          rcases hq with ⟨hr, hev⟩ | ⟨c, f, args, hop, hcal, hso, hargs⟩
          · exact Does.congr ocg' (.op (evOp_read hr hev))
          · have hclj := h.clH j (by omega)
            exact Does.congr ocg' (.call c f args hop hcal ((hso (Hs j) [] (by simp) hclj hargs).ext hargs hclj))
        · obtain ⟨d, hd⟩ : ∃ d, j = m + d := ⟨j - m, by omega⟩
          obtain ⟨E, hE⟩ := dr.spanE m d (by omega) fun k ok h1 h2 hk hS => by
            have hl : Lst listed k := before k ok hk (by omega) (by
              have : clsConf (clsOf C ok.op) (clsOf C o.op) = true := by rw [hS, hc]; rfl
              simp [conflict, this])
            have := (h.ns k ok hk (Or.inr hS)).1 hl
            omega
          rw [← hd] at hE
          rcases hq with ⟨hr, hev⟩ | ⟨c, f, args, hop, hcal, hso, hargs⟩
          · rw [hE, evOp_congr ocg'] at hev
            exact .op (evOp_read_back hr hids hev)
          · have hcal' : calleeOf (TD ops.toList 0 vs (fun k => listed.getD k false) T0) c = some (f, args) := by
              rw [← hcal]
              exact (calleeOf_congr fun x hx => ocg' x (by rw [hop]; exact hx)).symm
            exact .call c f args hop hcal' (hso (Hs m) E hE (h.clH m (Nat.le_refl _)) (calleeOf_ids hids hcal'))
      refine Or.inl (does_sound h.adv.rep h.rt hdoes fun ρ' w' ad hv => stay (a' := a) (by rw [hc]; rintro (h | h) <;> cases h) ad hv)
    | N =>
      rw [hc] at hst
      simp only at hst
      obtain ⟨E, hE, hd⟩ := hst
      have hns : isNS (clsOf C o.op) := Or.inl hc
      obtain ⟨hm, hH⟩ := atNS hns
      rw [hH] at hd
      refine Or.inl (does_sound h.adv.rep h.rt (Does.congr ocg' hd) fun ρ' w' ad hv => ?_)
      refine hK ρ' (j + 1) _ w' ⟨hsz', hcl', by omega, ?_, h.adv.trans ad, ?_, after_ (h.rt.adv ad) hv, by rw [put_defers]; exact h.df⟩
      · intro i oi hi hisn
        rw [lst_set hjl]
        constructor
        · rintro (hl | rfl)
          · have := (h.ns i oi hi hisn).1 hl; omega
          · omega
        · intro hlt
          rcases Nat.lt_or_ge i j with h1 | h1
          · exact Or.inl (before i oi hi h1 (by
              have : clsConf (clsOf C oi.op) (clsOf C o.op) = true := by
                rcases hisn with hkn | hkn <;> rw [hkn, hc] <;> rfl
              simp [conflict, this]))
          · exact Or.inr (by omega)
      · intro i hi
        rcases Nat.lt_or_ge i m with h1 | h1
        · exact h.clH i (by omega)
        · rcases Nat.lt_or_ge j i with h2 | h2
          · have : i = j + 1 := by omega
            rw [this]
            exact ad.rep.cl
          · have : Hs i = Hs m := by
              obtain ⟨d, rfl⟩ : ∃ d, i = m + d := ⟨i - m, by omega⟩
              refine dr.span m d (by omega) fun k ok h3 h4 hk hkn => ?_
              have hl : Lst listed k := before k ok hk (by omega) (by
                have : clsConf (clsOf C ok.op) (clsOf C o.op) = true := by
                  rcases hkn with hkn | hkn <;> rw [hkn, hc] <;> rfl
                simp [conflict, this])
              have := (h.ns k ok hk hkn).1 hl
              omega
            rw [this]
            exact h.clH m (Nat.le_refl _)
    | S =>
      rw [hc] at hst
      simp only at hst
      have hns : isNS (clsOf C o.op) := Or.inr hc
      obtain ⟨hm, hH⟩ := atNS hns
      rw [hH] at hst
      refine Or.inl (does_sound h.adv.rep h.rt (Does.congr ocg' hst) fun ρ' w' ad hv => ?_)
      refine hK ρ' (j + 1) _ w' ⟨hsz', hcl', by omega, ?_, h.adv.trans ad, ?_, after_ (h.rt.adv ad) hv, by rw [put_defers]; exact h.df⟩
      · intro i oi hi hisn
        rw [lst_set hjl]
        constructor
        · rintro (hl | rfl)
          · have := (h.ns i oi hi hisn).1 hl; omega
          · omega
        · intro hlt
          rcases Nat.lt_or_ge i j with h1 | h1
          · exact Or.inl (before i oi hi h1 (by
              have : clsConf (clsOf C oi.op) (clsOf C o.op) = true := by
                rcases hisn with hkn | hkn <;> rw [hkn, hc] <;> rfl
              simp [conflict, this]))
          · exact Or.inr (by omega)
      · intro i hi
        rcases Nat.lt_or_ge i m with h1 | h1
        · exact h.clH i (by omega)
        · rcases Nat.lt_or_ge j i with h2 | h2
          · have : i = j + 1 := by omega
            rw [this]
            exact ad.rep.cl
          · have : Hs i = Hs m := by
              obtain ⟨d, rfl⟩ : ∃ d, i = m + d := ⟨i - m, by omega⟩
              refine dr.span m d (by omega) fun k ok h3 h4 hk hkn => ?_
              have hl : Lst listed k := before k ok hk (by omega) (by
                have : clsConf (clsOf C ok.op) (clsOf C o.op) = true := by
                  rcases hkn with hkn | hkn <;> rw [hkn, hc] <;> rfl
                simp [conflict, this])
              have := (h.ns k ok hk hkn).1 hl
              omega
            rw [this]
            exact h.clH m (Nat.le_refl _)

end Go.Am
