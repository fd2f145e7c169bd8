/- The frame of all our walks, part 15: code, loops, functions. No condition. -/
import Derived.Test.YtbheeobnghlckaaAm14
set_option linter.unusedVariables false
set_option linter.unusedSimpArgs false
namespace Go.Am
open Go.RowKit

theorem draw_any {P : Program} {C : Ctx P} {ops : Array Oper} {T0 : Tm} {vs : Nat → Value} {Hs : Nat → Heap} {ρ0 : Ren} {H0 : Heap} {w0 : World} {Q : Exit → Act → World → Prop} (dr : DRun C ops T0 vs Hs)
    (hQ : ∀ ρ a w, Inv P ρ0 H0 w0 ρ (TD ops.toList 0 vs (fun k => decide (k < ops.toList.length)) T0) (Hs ops.toList.length) a w → Q .normal a w) :
    ∀ (fuel : Nat) (listed : Array Bool) (ρ : Ren) (m : Nat) (a : Act) (w : World), listed.toList.count false = fuel → DInv C ops T0 vs Hs ρ0 H0 w0 listed ρ m a w → wpAny P .any ops Q fuel listed a w := by
  have fin : ∀ (listed : Array Bool) (ρ : Ren) (m : Nat) (a : Act) (w : World), DInv C ops T0 vs Hs ρ0 H0 w0 listed ρ m a w → Region.ready .any ops listed = [] → Q .normal a w := by
    intro listed ρ m a w h hr
    have all : ∀ i, i < ops.size → Lst listed i := by
      intro i
      induction i using Nat.strongRecOn with
      | _ i ih =>
        intro hi
        have ho : ops[i]? = some ops[i] := Array.getElem?_eq_getElem hi
        have hil : i < listed.size := by rw [h.size]; exact hi
        by_cases hl : Lst listed i
        · exact hl
        · exfalso
          have : i ∈ Region.ready .any ops listed := mem_ready.2 ⟨by
            unfold Lst at hl
            simp only [Array.getD_eq_getD_getElem?, Array.getElem?_eq_getElem hil, Option.getD_some] at hl ⊢
            simpa using hl, _, ho, fun e he hb => ih e.on (dr.edge ho e he hb) (Nat.lt_trans (dr.edge ho e he hb) hi)⟩
          rw [hr] at this
          cases this
    have hH : Hs ops.toList.length = Hs m := by
      rw [Array.length_toList]
      obtain ⟨d, hd⟩ : ∃ d, ops.size = m + d := ⟨ops.size - m, by have := h.mle; omega⟩
      rw [hd]
      refine dr.span m d (by omega) fun k ok h1 h2 hk hkn => ?_
      have := (h.ns k ok hk hkn).1 (all k (by omega))
      omega
    have hT : ∀ t : Nat, (TD ops.toList 0 vs (fun k => decide (k < ops.toList.length)) T0)[t]? = (TD ops.toList 0 vs (fun k => listed.getD k false) T0)[t]? := fun t =>
      TD_same _ _ _ _ _ _ _ t rfl rfl fun i o hi _ => by
        have hlt : i < ops.toList.length := lt_of_some hi
        have := all i (by simpa using hlt)
        unfold Lst at this
        rw [Nat.zero_add, this]
        simpa using hlt
    refine hQ ρ a w ⟨by rw [hH]; exact h.adv, ⟨?_, fun t v hv => ?_, fun t v hv => ?_⟩, h.df⟩
    · rw [h.rt.size, TD_length, TD_length]
    · rw [hT] at hv; exact h.rt.at_ t v hv
    · rw [hT] at hv; rw [hH]; exact h.rt.cl t v hv
  intro fuel
  induction fuel with
  | zero =>
    intro listed ρ m a w hc h
    have hr : Region.ready .any ops listed = [] := by
      cases hrr : Region.ready .any ops listed with
      | nil => rfl
      | cons j js =>
        have hj : j ∈ Region.ready .any ops listed := by rw [hrr]; simp
        obtain ⟨hun, o, ho, hall⟩ := mem_ready.1 hj
        have hjl : j < listed.size := by rw [h.size]; exact (Array.getElem?_eq_some_iff.1 ho).1
        have : false ∈ listed.toList := by
          refine List.mem_of_getElem? (i := j) ?_
          simp only [Array.getD_eq_getD_getElem?, Array.getElem?_eq_getElem hjl, Option.getD_some] at hun
          simp [hjl, hun]
        have := List.count_pos_iff.2 this
        omega
    exact ⟨hr, fin listed ρ m a w h hr⟩
  | succ fuel ih =>
    intro listed ρ m a w hc h
    refine ⟨fin listed ρ m a w h, fun j hj => ?_⟩
    obtain ⟨hun, o, ho, hall⟩ := mem_ready.1 hj
    have hjl : j < listed.size := by rw [h.size]; exact (Array.getElem?_eq_some_iff.1 ho).1
    refine h.go dr hj fun ρ' m' a' w' h' => ih _ ρ' m' a' w' ?_ h'
    have := count_set (l := listed.toList) (i := j) (by
      simp only [Array.getD_eq_getD_getElem?, Array.getElem?_eq_getElem hjl, Option.getD_some] at hun
      simp [hjl, hun])
    simp only [Array.toList_setIfInBounds]
    omega

theorem draw_sound {P : Program} {C : Ctx P} {ops : Array Oper} {id : Nat} {ρ0 ρ : Ren} {H0 H : Heap} {w0 w : World} {T : Tm} {a : Act} {K : Exit → Tm → Heap → Prop}
    (hOK : regionOK C ops = true) (hs : sOpsD C ops ops.toList T H (K .normal)) (hi : Inv P ρ0 H0 w0 ρ T H a w) : (Code.region id ops true).wp P (Post P ρ0 H0 w0 K) a w := by
  obtain ⟨vs, Hs, h0, h1, h2⟩ := run_of _ _ _ hs
  have dr : DRun C ops T vs Hs := ⟨hOK, fun i o hi => h1 i o (by simpa using hi)⟩
  refine wp_region_any C.mixed ?_
  have hdrew := adv_drew hi.adv.rep { w with drawn := w.drawn + 1 } rfl rfl rfl rfl
  refine draw_any (ρ0 := ρ0) (H0 := H0) (w0 := w0) dr (fun ρ' a' w' h => ⟨ρ', _, _, h2, h⟩) ops.size _ ρ 0 a _ ?_ ?_
  · simp
  · have none' : ∀ (l : List Oper) (k : Nat) (T : Tm), TD l k vs (fun k => (Array.replicate ops.size false).getD k false) T = T := by
      intro l
      induction l with
      | nil => intro k T; rfl
      | cons a l ih =>
        intro k T
        rw [TD, if_neg, ih]
        simp [Array.getElem?_replicate]
        split <;> simp
    have nol : ∀ i, ¬ Lst (Array.replicate ops.size false) i := by
      intro i h
      unfold Lst at h
      simp only [Array.getD_eq_getD_getElem?, Array.getElem?_replicate] at h
      split at h <;> simp at h
    refine ⟨by simp, fun j o ho hl => absurd hl (nol j), Nat.zero_le _, fun i o ho hn => ⟨fun hl => absurd hl (nol i), fun h => absurd h (by omega)⟩, by rw [h0]; exact hi.adv.trans hdrew, fun i hi' => ?_, ?_, hi.df⟩
    · have : i = 0 := by omega
      rw [this, h0]
      exact hi.adv.rep.cl
    · rw [none', h0]
      exact hi.rt

/-! ### the same memory under other numbers -/
def renRow (σ : Nat → Nat) (r : Row) : Row := { r with cells := r.cells.map (mpS (renId σ)) }

/-- H', as a part of H whose rows bear other numbers; those below n bear their own -/
structure RenOK (n : Nat) (H : Heap) (σ : Nat → Nat) (H' : Heap) : Prop where
  low : ∀ i, i < n → σ i = i
  len : n ≤ H'.length
  row : ∀ (i : Nat) (r : Row), H'[i]? = some (some r) → H[σ i]? = some (some (renRow σ r))
  inj : ∀ (i j : Nat) (r s : Row), H'[i]? = some (some r) → H'[j]? = some (some s) → σ i = σ j → i = j
  cl : Closed H'

theorem adv_ren {P : Program} {ρ0 ρ : Ren} {H0 H H' : Heap} {w0 w : World} {σ : Nat → Nat} (h : Adv P ρ0 H0 w0 ρ H w) (r : RenOK H0.length H σ H') : Adv P ρ0 H0 w0 (fun i => ρ (σ i)) H' w := by
  refine ⟨fun i hi => by rw [r.low i hi]; exact h.agree i hi, r.len, ⟨fun i s hi => ?_, fun i j s t hi hj hs ht hij => ?_, r.cl⟩, h.os, h.tape, h.output, h.size, h.frame, fun i s hi hs => ?_⟩
  · obtain ⟨⟨cur, e, fz, hb, hcu, hwr, hlen⟩, hsc⟩ := h.rep.row _ _ (r.row i s hi)
    refine ⟨⟨cur, e, fz, hb, fun j v hv => ?_, hwr, fun hbx => by have := hlen hbx; simpa [renRow] using this⟩, fun v hv => ?_⟩
    · have := hcu j (mpS (renId σ) v) (by simp [renRow, hv])
      rw [this, mapS, mpS_ren]
    · have := hsc (mpS (renId σ) v) (by simp only [renRow]; exact List.mem_map_of_mem hv)
      rwa [scal_mpS] at this
  · refine h.rep.sep (σ i) (σ j) _ _ (r.row i s hi) (r.row j t hj) hs ?_ (fun e => hij (r.inj i j s t hi hj e))
    rcases ht with ht | ht
    · exact Or.inl ht
    · exact Or.inr (by simpa [renRow] using ht)
  · exact h.fresh (σ i) _ (r.row i s hi) hs

/-- a state that is as another one, under other numbers, with less told -/
structure Wk (n : Nat) (T : Tm) (H : Heap) (T' : Tm) (H' : Heap) : Prop where
  ex : ∃ σ : Nat → Nat, RenOK n H σ H' ∧ T'.length = T.length ∧ ∀ (t : Nat) (v : Value), T'[t]? = some (some v) → T[t]? = some (some (mpV (renId σ) v)) ∧ ∀ i ∈ idsV v, i < H'.length

theorem Wk.inv {P : Program} {ρ0 ρ : Ren} {H0 H H' : Heap} {w0 w : World} {T T' : Tm} {a : Act} (h : Inv P ρ0 H0 w0 ρ T H a w) (k : Wk H0.length T H T' H') : ∃ ρ', Inv P ρ0 H0 w0 ρ' T' H' a w := by
  obtain ⟨σ, hr, hl, ht⟩ := k.ex
  refine ⟨fun i => ρ (σ i), adv_ren h.adv hr, ⟨by rw [h.rt.size, hl], fun t v hv => ?_, fun t v hv => (ht t v hv).2⟩, h.df⟩
  rw [h.rt.at_ t _ (ht t v hv).1, mapV, mpV_ren]

/-- the same slots, with less told -/
def SubT (T' T : Tm) : Prop := T'.length = T.length ∧ ∀ (t : Nat) (v : Value), T'[t]? = some (some v) → T[t]? = some (some v)

theorem Inv.sub {P : Program} {ρ0 ρ : Ren} {H0 H : Heap} {w0 w : World} {T T' : Tm} {a : Act} (h : Inv P ρ0 H0 w0 ρ T H a w) (k : SubT T' T) : Inv P ρ0 H0 w0 ρ T' H a w :=
  ⟨h.adv, ⟨by rw [h.rt.size, k.1], fun t v hv => h.rt.at_ t v (k.2 t v hv), fun t v hv => h.rt.cl t v (k.2 t v hv)⟩, h.df⟩

/-- behind a region some slots may be left untold -/
def Less (K : Exit → Tm → Heap → Prop) : Exit → Tm → Heap → Prop := fun e T H => ∃ T1, SubT T1 T ∧ K e T1 H

theorem Less.post {P : Program} {ρ0 : Ren} {H0 : Heap} {w0 : World} {K : Exit → Tm → Heap → Prop} {e : Exit} {a : Act} {w : World} (h : Post P ρ0 H0 w0 (Less K) e a w) : Post P ρ0 H0 w0 K e a w := by
  obtain ⟨ρ, T, H, ⟨T1, hs, hk⟩, hi⟩ := h
  exact ⟨ρ, T1, H, hk, hi.sub hs⟩

/-- the last rows dropped -/
theorem adv_drop {P : Program} {ρ0 ρ : Ren} {H0 H' E : Heap} {w0 w : World} (h : Adv P ρ0 H0 w0 ρ (H' ++ E) w) (hn : H0.length ≤ H'.length) (hc : Closed H') : Adv P ρ0 H0 w0 ρ H' w := by
  have hsub : ∀ (i : Nat) (r : Row), H'[i]? = some (some r) → (H' ++ E)[i]? = some (some r) := fun i r hi => by rw [List.getElem?_append_left (lt_of_some hi)]; exact hi
  exact ⟨h.agree, hn, ⟨fun i r hi => h.rep.row i r (hsub i r hi), fun i j r s hi hj => h.rep.sep i j r s (hsub i r hi) (hsub j s hj), hc⟩, h.os, h.tape, h.output, h.size, h.frame, fun i r hi hr => h.fresh i r (hsub i r hi) hr⟩

/-- a state told with less, in one of three ways -/
def WkAny (n : Nat) (T : Tm) (H : Heap) (T' : Tm) (H' : Heap) : Prop :=
  (SubT T' T ∧ H' = H) ∨ (SubT T' T ∧ (∃ E, H = H' ++ E) ∧ n ≤ H'.length ∧ Closed H' ∧ ∀ (t : Nat) (v : Value), T'[t]? = some (some v) → ∀ i ∈ idsV v, i < H'.length) ∨ Wk n T H T' H'

theorem WkAny.inv {P : Program} {ρ0 ρ : Ren} {H0 H H' : Heap} {w0 w : World} {T T' : Tm} {a : Act} (h : Inv P ρ0 H0 w0 ρ T H a w) (k : WkAny H0.length T H T' H') : ∃ ρ', Inv P ρ0 H0 w0 ρ' T' H' a w := by
  rcases k with ⟨hs, rfl⟩ | ⟨hs, ⟨E, rfl⟩, hn, hc, hi⟩ | k
  · exact ⟨ρ, h.sub hs⟩
  · exact ⟨ρ, adv_drop h.adv hn hc, ⟨(h.sub hs).rt.size, (h.sub hs).rt.at_, hi⟩, h.df⟩
  · exact k.inv h

/-! ### code -/
def seqK (f : Tm → Heap → Prop) (K : Exit → Tm → Heap → Prop) : Exit → Tm → Heap → Prop
  | .normal, T, H => f T H
  | e, T, H => K e T H
def blkK (id : Nat) (K : Exit → Tm → Heap → Prop) : Exit → Tm → Heap → Prop
  | .exit i, T, H => if i = id then K .normal T H else K (.exit i) T H
  | e, T, H => K e T H
def loopK (n : Nat) (I : Nat → Tm → Heap → Prop) (m : Nat) (K : Exit → Tm → Heap → Prop) : Exit → Tm → Heap → Prop
  | .normal, T, H => ∃ m' T1 H1, m' < m ∧ WkAny n T H T1 H1 ∧ I m' T1 H1
  | e, T, H => K e T H

def sC {P : Program} (C : Ctx P) (n : Nat) : Code → Tm → Heap → (Exit → Tm → Heap → Prop) → Prop
  | .skip, T, H, K => K .normal T H
  | .region _ ops false, T, H, K => sOps C ops ops.toList T H (Less K .normal)
  | .region id ops true, T, H, K => (regionOK C ops = true ∧ sOpsD C ops ops.toList T H (Less K .normal)) ∨ ∀ (ρ0 ρ : Ren) (H0 : Heap) (w0 w : World) (a : Act), H0.length = n → Inv P ρ0 H0 w0 ρ T H a w → (Code.region id ops true).wp P (Post P ρ0 H0 w0 (Less K)) a w
  | .seq a b, T, H, K => sC C n a T H (seqK (fun T' H' => sC C n b T' H' K) K)
  | .cond c a b, T, H, K => ∃ t, evalO T c = some (.bool t) ∧ (t = true → sC C n a T H K) ∧ (t = false → sC C n b T H K)
  | .block id c, T, H, K => sC C n c T H (blkK id K)
  | .loop c, T, H, K => ∃ (I : Nat → Tm → Heap → Prop) (m : Nat) (T1 : Tm) (H1 : Heap), WkAny n T H T1 H1 ∧ I m T1 H1 ∧ ∀ m T H, I m T H → sC C n c T H (loopK n I m K)
  | .exit id, T, H, K => K (.exit id) T H
  | .ret, T, H, K => K .ret T H
  | _, _, _, _ => False

theorem sC_sound {P : Program} {C : Ctx P} {ρ0 : Ren} {H0 : Heap} {w0 : World} : ∀ (c : Code) (K : Exit → Tm → Heap → Prop) (ρ : Ren) (T : Tm) (H : Heap) (a : Act) (w : World),
    Inv P ρ0 H0 w0 ρ T H a w → sC C H0.length c T H K → c.wp P (Post P ρ0 H0 w0 K) a w
  | .skip, K, ρ, T, H, a, w, hi, hs => wp_skip ⟨ρ, T, H, hs, hi⟩
  | .region id ops d, K, ρ, T, H, a, w, hi, hs => by
    cases d with
    | false => exact wp_mono (wp_region_list (sOps_sound (K := Less K) ops.toList ρ T H a w hi hs)) fun _ _ _ h => Less.post h
    | true =>
      rcases hs with hs | hs
      · exact wp_mono (draw_sound (K := Less K) hs.1 hs.2 hi) fun _ _ _ h => Less.post h
      · exact wp_mono (hs _ _ _ _ _ _ rfl hi) fun _ _ _ h => Less.post h
  | .seq x y, K, ρ, T, H, a, w, hi, hs => by
    refine wp_seq (wp_mono (sC_sound x _ ρ T H a w hi hs) ?_)
    intro e a' w' ⟨ρ', T', H', hk, hi'⟩
    cases e with
    | normal => exact sC_sound y K ρ' T' H' a' w' hi' hk
    | _ => exact ⟨ρ', T', H', hk, hi'⟩
  | .cond c x y, K, ρ, T, H, a, w, hi, hs => by
    obtain ⟨t, hc, h1, h2⟩ := hs
    have he := (evalO_sound hi.rt hc).1
    have hb : mapV ρ (.bool t) = .bool t := rfl
    rw [hb] at he
    cases t with
    | true => exact wp_cond_true he (sC_sound x K ρ T H a w hi (h1 rfl))
    | false => exact wp_cond_false he (sC_sound y K ρ T H a w hi (h2 rfl))
  | .block id c, K, ρ, T, H, a, w, hi, hs => by
    refine wp_block (wp_mono (sC_sound c _ ρ T H a w hi hs) ?_)
    intro e a' w' ⟨ρ', T', H', hk, hi'⟩
    cases e with
    | exit i =>
      simp only [blkK] at hk
      simp only [Exit.inBlock]
      split at hk
      · rename_i h; rw [if_pos h]; exact ⟨ρ', T', H', hk, hi'⟩
      · rename_i h; rw [if_neg h]; exact ⟨ρ', T', H', hk, hi'⟩
    | _ => exact ⟨ρ', T', H', hk, hi'⟩
  | .loop c, K, ρ, T, H, a, w, hi, hs => by
    obtain ⟨I, m, T1, H1, hw, hI, hround⟩ := hs
    obtain ⟨ρ1, hi1⟩ := hw.inv hi
    refine wp_loop_ghost (fun m a w => ∃ ρ T H, I m T H ∧ Inv P ρ0 H0 w0 ρ T H a w) m ⟨ρ1, T1, H1, hI, hi1⟩ ?_
    rintro m a w ⟨ρ, T, H, hI, hi⟩
    refine wp_mono (sC_sound c _ ρ T H a w hi (hround m T H hI)) ?_
    intro e a' w' ⟨ρ', T', H', hk, hi'⟩
    cases e with
    | normal =>
      obtain ⟨m', T2, H2, hlt, hw2, hI2⟩ := hk
      obtain ⟨ρ2, hi2⟩ := hw2.inv hi'
      exact ⟨m', hlt, ρ2, T2, H2, hI2, hi2⟩
    | _ => exact ⟨ρ', T', H', hk, hi'⟩
  | .exit id, K, ρ, T, H, a, w, hi, hs => wp_exit ⟨ρ, T, H, hs, hi⟩
  | .ret, K, ρ, T, H, a, w, hi, hs => wp_ret ⟨ρ, T, H, hs, hi⟩
  | .rangeFunc .., _, _, _, _, _, _, _, hs => hs.elim
  | .scope _, _, _, _, _, _, _, _, hs => hs.elim
  | .label _, _, _, _, _, _, _, _, hs => hs.elim
  | .goto _, _, _, _, _, _, _, _, hs => hs.elim
  | .refuse _, _, _, _, _, _, _, _, hs => hs.elim

/-! ### functions -/
def isTup : Value → Bool
  | .tuple _ => true
  | _ => false
theorem notTup {v : Value} (h : isTup v = false) (m : Mp) : mpV m v = mpA m v ∧ idsV v = idsA v := by
  cases v <;> first | exact ⟨rfl, rfl⟩ | cases h
def resOf (P : Program) (T : Tm) (H : Heap) : List ResultVar → Option (List Value)
  | [] => some []
  | .tmp t :: r => match getT T t, resOf P T H r with
    | some v, some l => if isTup v = true then none else some (v :: l)
    | _, _ => none
  | .cell x t :: r => match getT T x, resOf P T H r with
    | some a, some l => (opLoad P H t a).map fun v => v :: l
    | _, _ => none
def packR : List Value → Value
  | [v] => v
  | l => .tuple l.toArray

theorem resOf_sound {P : Program} {ρ : Ren} {T : Tm} {H : Heap} {w : World} {a : Act} (hr : Rep P ρ H w) (ht : RT ρ H.length T a) : ∀ {rs : List ResultVar} {l : List Value}, resOf P T H rs = some l →
    (rs.mapM (fun r => match r with
      | .tmp t => pure (a.tmps.getD t undef)
      | .cell x t => do loadVar t (← asAddr (a.tmps.getD x undef)) : ResultVar → Sem Value)).run P w = .ok (l.map (mapA ρ)) w ∧ ∀ v ∈ l, isTup v = false ∧ ∀ i ∈ idsV v, i < H.length
  | [], l, h => by simp [resOf] at h; subst h; simp
  | .tmp t :: r, l, h => by
    simp only [resOf] at h
    cases hv : getT T t with
    | none => rw [hv] at h; simp at h
    | some v =>
      cases hl : resOf P T H r with
      | none => rw [hv, hl] at h; simp at h
      | some l' =>
        rw [hv, hl] at h
        simp only at h
        split at h
        · cases h
        · rename_i hnt
          simp only [Option.some.injEq] at h
          subst h
          obtain ⟨h1, h2⟩ := resOf_sound hr ht hl
          have hat := ht.at_ t _ (getT_some hv)
          have hnt' : isTup v = false := by simpa using hnt
          have hm := (notTup hnt' (toReal ρ)).1
          refine ⟨?_, fun u hu => ?_⟩
          · simp only [List.mapM_cons, Sem.run_bind, Sem.run_pure, Result.andThen_ok, h1, Array.getD_eq_getD_getElem?, hat, Option.getD_some, List.map_cons]
            simp only [Array.getD_eq_getD_getElem?] at h1
            rw [h1, mapV, hm]
            rfl
          · rcases List.mem_cons.1 hu with rfl | hu
            · exact ⟨hnt', ht.cl t _ (getT_some hv)⟩
            · exact h2 u hu
  | .cell x t :: r, l, h => by
    simp only [resOf] at h
    cases hv : getT T x with
    | none => rw [hv] at h; simp at h
    | some v =>
      cases hl : resOf P T H r with
      | none => rw [hv, hl] at h; simp at h
      | some l' =>
        rw [hv, hl] at h
        simp only at h
        cases ho : opLoad P H t v with
        | none => rw [ho] at h; cases h
        | some u =>
          rw [ho] at h
          simp only [Option.map_some, Option.some.injEq] at h
          subst h
          obtain ⟨h1, h2⟩ := resOf_sound hr ht hl
          have hat := ht.at_ x _ (getT_some hv)
          obtain ⟨⟨ad, rfl, hrun⟩, hcl, hnt⟩ := opLoad_run hr ho
          have hnt' : isTup u = false := by cases u <;> first | rfl | exact absurd rfl (hnt _)
          have hm := (notTup hnt' (toReal ρ)).1
          have haddr : mapV ρ (.pointer (some ad)) = .pointer (some ⟨(ρ ad.block).blk, (ρ ad.block).off + ad.off, none⟩) := rfl
          rw [haddr] at hat
          refine ⟨?_, fun y hy => ?_⟩
          · have hone : (do loadVar t (← asAddr (a.tmps.getD x undef)) : Sem Value).run P w = .ok (mapV ρ u) w := by
              simp [hat, asAddr, hrun]
            rw [List.mapM_cons, Sem.run_bind]
            simp only
            rw [hone]
            simp only [Result.andThen_ok]
            rw [Sem.run_bind, h1]
            simp only [Result.andThen_ok, Sem.run_pure, List.map_cons]
            rw [mapV, hm]
          · rcases List.mem_cons.1 hy with rfl | hy
            · exact ⟨hnt', hcl⟩
            · exact h2 y hy

theorem packR_sound {P : Program} {fn : Func} {ρ : Ren} {T : Tm} {H : Heap} {w : World} {a : Act} (hr : Rep P ρ H w) (ht : RT ρ H.length T a) {l : List Value} (h : resOf P T H fn.results.toList = some l) :
    (results fn a.tmps).run P w = .ok (mapV ρ (packR l)) w ∧ ∀ i ∈ idsV (packR l), i < H.length := by
  obtain ⟨h1, h2⟩ := resOf_sound hr ht h
  have h3 : (fn.results.mapM (fun r => match r with
      | .tmp t => pure (a.tmps.getD t undef)
      | .cell x t => do loadVar t (← asAddr (a.tmps.getD x undef)) : ResultVar → Sem Value)).run P w = .ok (l.map (mapA ρ)).toArray w := by
    rw [Array.mapM_eq_mapM_toList]
    simp only [Sem.run_map, h1, Result.andThen_ok]
  refine ⟨?_, ?_⟩
  · unfold results
    simp only [Sem.run_bind]
    erw [h3]
    simp only [Result.andThen_ok, Sem.run_pure]
    match l, h2 with
    | [], _ => simp [packR, mapV, mpV]
    | [v], h2 =>
      have := notTup (h2 v (by simp)).1 (toReal ρ)
      simp only [packR, mapV, this.1]
      rfl
    | u :: v :: r, _ =>
      rw [dif_neg (by simp)]
      simp [packR, mapV, mpV]
  · match l, h2 with
    | [], _ => simp [packR, idsV]
    | [v], h2 => exact (h2 v (by simp)).2
    | u :: v :: r, h2 =>
      intro i hi
      simp only [packR, idsV, List.mem_flatMap] at hi
      obtain ⟨x, hx, hi⟩ := hi
      have hx' : x ∈ u :: v :: r := by simpa using hx
      have := notTup (h2 x hx').1 (toReal (fun _ => ⟨0, 0, 0⟩))
      exact (h2 x hx').2 i (by rw [this.2]; exact hi)

/-- how a call's end is told: the results, memory under numbers of the teller's choice -/
def Ends (P : Program) (fn : Func) (n : Nat) (v : Value) (H' : Heap) (e : Exit) (T : Tm) (H : Heap) : Prop :=
  (e = .normal ∨ e = .ret) ∧ ((∃ l σ, resOf P T H fn.results.toList = some l ∧ packR l = mpV (renId σ) v ∧ RenOK n H σ H' ∧ ∀ i ∈ idsV v, i < H'.length) ∨
    ∃ l E, resOf P T H fn.results.toList = some l ∧ packR l = v ∧ H = H' ++ E ∧ n ≤ H'.length ∧ (E = [] ∨ Closed H') ∧ ∀ i ∈ idsV v, i < H'.length)

theorem sound_intro {P : Program} {C : Ctx P} {f : FuncId} {fn : Func} {c : Code} {args : List Value} {H H' : Heap} {v : Value} (hf : P.funcs[f]? = some fn) (hb : fn.body = some c) (hn : (fn.name == "runtime.NumGoroutine") = false)
    (h : Closed H → sC C H.length c (args.map some ++ List.replicate (fn.ntmps - args.length) (some undef)) H (Ends P fn H.length v H')) : Sound P f args H v H' := by
  refine ⟨⟨fn, hf, hn, by rw [hb]; rfl⟩, fun ρ w hr ha => ?_⟩
  refine calls_of_wp hf hb (wp_mono (sC_sound (ρ0 := ρ) (H0 := H) (w0 := w) c _ ρ _ H _ w ⟨Adv.refl hr, ⟨?_, fun t u hu => ?_, fun t u hu => ?_⟩, rfl⟩ (h hr.cl)) ?_)
  · simp
  · rcases Nat.lt_or_ge t args.length with hlt | hge
    · rw [List.getElem?_append_left (by simpa using hlt), List.getElem?_map] at hu
      rw [Array.getElem?_append_left (by simpa using hlt)]
      cases hx : args[t]? with
      | none => rw [hx] at hu; cases hu
      | some y =>
        rw [hx] at hu
        simp only [Option.map_some, Option.some.injEq] at hu
        subst hu
        simp [hx]
    · rw [List.getElem?_append_right (by simpa using hge), List.getElem?_replicate] at hu
      split at hu
      · rename_i hlt
        simp only [Option.some.injEq] at hu
        subst hu
        rw [Array.getElem?_append_right (by simpa using hge), Array.getElem?_replicate]
        simp only [List.length_map] at hlt
        simp only [List.size_toArray, List.length_map]
        rw [if_pos hlt]
        simp [undef, mapV, mpV]
      · cases hu
  · rcases Nat.lt_or_ge t args.length with hlt | hge
    · rw [List.getElem?_append_left (by simpa using hlt), List.getElem?_map] at hu
      cases hx : args[t]? with
      | none => rw [hx] at hu; cases hu
      | some y =>
        rw [hx] at hu
        simp only [Option.map_some, Option.some.injEq] at hu
        subst hu
        exact ha y (List.mem_of_getElem? hx)
    · rw [List.getElem?_append_right (by simpa using hge), List.getElem?_replicate] at hu
      split at hu
      · simp only [Option.some.injEq] at hu
        subst hu
        simp [undef, idsV]
      · cases hu
  · intro e a' w' ⟨ρ', T', H1, ⟨he, hor⟩, hi⟩
    have hfin : a'.defers = [] ∧ ∃ u, (results fn a'.tmps).run P w' = .ok u w' ∧ (∃ ρ'', Ending.returned u = .returned (mapV ρ'' v) ∧ Adv P ρ H w ρ'' H' w' ∧ ∀ i ∈ idsV v, i < H'.length) := by
      rcases hor with ⟨l, σ, hres, hpk, hren, hv⟩ | ⟨l, E, hres, hpk, rfl, hn, hc, hv⟩
      · obtain ⟨hrun, hcl⟩ := packR_sound (fn := fn) hi.adv.rep hi.rt hres
        exact ⟨hi.df, _, hrun, fun i => ρ' (σ i), by rw [hpk, mapV, mpV_ren], adv_ren hi.adv hren, hv⟩
      · obtain ⟨hrun, hcl⟩ := packR_sound (fn := fn) hi.adv.rep hi.rt hres
        have hc' : Closed H' := by
          rcases hc with rfl | hc
          · have := hi.adv.rep.cl
            rw [List.append_nil] at this
            exact this
          · exact hc
        exact ⟨hi.df, _, hrun, ρ', by rw [hpk], adv_drop hi.adv hn hc', hv⟩
    rcases he with rfl | rfl
    · exact hfin
    · exact hfin

end Go.Am
