/- Part of the proof, merged out of smaller texts. No condition. -/
import Derived.Test.YteohlhpdbnhbaaaAmC0
import Derived.Test.YteohlhpdbnhbaaaRows
set_option linter.unusedVariables false
set_option linter.unusedSimpArgs false
namespace Go.Am
open Go.RowKit
theorem draw_any {P : Program} {C : Ctx P} {ops : Array Oper} {T0 : Tm} {vs : Nat → Value} {Hs : Nat → Heap} {ρ0 : Ren} {H0 : Heap} {w0 : World} {Q : Exit → Act → World → Prop} (dr : DRun C ops T0 vs Hs)
    (hQ : ∀ ρ a w, Inv P ρ0 H0 w0 ρ (TD ops.toList 0 vs (fun k => decide (k < ops.toList.length)) T0) (Hs ops.toList.length) a w → Q .normal a w) :
    ∀ (fuel : Nat) (listed : Array Bool) (ρ : Ren) (m : Nat) (a : Act) (w : World), listed.toList.count false = fuel → DInv C ops T0 vs Hs ρ0 H0 w0 listed ρ m a w → wpAny P .any ops Q fuel listed a w := by
  have fin : ∀ (listed : Array Bool) (ρ : Ren) (m : Nat) (a : Act) (w : World), DInv C ops T0 vs Hs ρ0 H0 w0 listed ρ m a w → Region.ready .any ops listed = [] → Q .normal a w := by
    intro listed ρ m a w h hr
    have all : ∀ i, i < ops.size → Lst listed i := by
      intro i
      induction i using Nat.strongRecOn with
      | _ i ih =>
        intro hi
        have ho : ops[i]? = some ops[i] := Array.getElem?_eq_getElem hi
        have hil : i < listed.size := by rw [h.size]; exact hi
        by_cases hl : Lst listed i
        · exact hl
        · exfalso
          have : i ∈ Region.ready .any ops listed := mem_ready.2 ⟨by
            unfold Lst at hl
            simp only [Array.getD_eq_getD_getElem?, Array.getElem?_eq_getElem hil, Option.getD_some] at hl ⊢
            simpa using hl, _, ho, fun e he hb => ih e.on (dr.edge ho e he hb) (Nat.lt_trans (dr.edge ho e he hb) hi)⟩
          rw [hr] at this
          cases this
    have hH : Hs ops.toList.length = Hs m := by
      rw [Array.length_toList]
      obtain ⟨d, hd⟩ : ∃ d, ops.size = m + d := ⟨ops.size - m, by have := h.mle; omega⟩
      rw [hd]
      refine dr.span m d (by omega) fun k ok h1 h2 hk hkn => ?_
      have := (h.ns k ok hk hkn).1 (all k (by omega))
      omega
    have hT : ∀ t : Nat, (TD ops.toList 0 vs (fun k => decide (k < ops.toList.length)) T0)[t]? = (TD ops.toList 0 vs (fun k => listed.getD k false) T0)[t]? := fun t =>
      TD_same _ _ _ _ _ _ _ t rfl rfl fun i o hi _ => by
        have hlt : i < ops.toList.length := lt_of_some hi
        have := all i (by simpa using hlt)
        unfold Lst at this
        rw [Nat.zero_add, this]
        simpa using hlt
    refine hQ ρ a w ⟨by rw [hH]; exact h.adv, ⟨?_, fun t v hv => ?_, fun t v hv => ?_⟩, h.df⟩
    · rw [h.rt.size, TD_length, TD_length]
    · rw [hT] at hv; exact h.rt.at_ t v hv
    · rw [hT] at hv; rw [hH]; exact h.rt.cl t v hv
  intro fuel
  induction fuel with
  | zero =>
    intro listed ρ m a w hc h
    have hr : Region.ready .any ops listed = [] := by
      cases hrr : Region.ready .any ops listed with
      | nil => rfl
      | cons j js =>
        have hj : j ∈ Region.ready .any ops listed := by rw [hrr]; simp
        obtain ⟨hun, o, ho, hall⟩ := mem_ready.1 hj
        have hjl : j < listed.size := by rw [h.size]; exact (Array.getElem?_eq_some_iff.1 ho).1
        have : false ∈ listed.toList := by
          refine List.mem_of_getElem? (i := j) ?_
          simp only [Array.getD_eq_getD_getElem?, Array.getElem?_eq_getElem hjl, Option.getD_some] at hun
          simp [hjl, hun]
        have := List.count_pos_iff.2 this
        omega
    exact ⟨hr, fin listed ρ m a w h hr⟩
  | succ fuel ih =>
    intro listed ρ m a w hc h
    refine ⟨fin listed ρ m a w h, fun j hj => ?_⟩
    obtain ⟨hun, o, ho, hall⟩ := mem_ready.1 hj
    have hjl : j < listed.size := by rw [h.size]; exact (Array.getElem?_eq_some_iff.1 ho).1
    refine h.go dr hj fun ρ' m' a' w' h' => ih _ ρ' m' a' w' ?_ h'
    have := count_set (l := listed.toList) (i := j) (by
      simp only [Array.getD_eq_getD_getElem?, Array.getElem?_eq_getElem hjl, Option.getD_some] at hun
      simp [hjl, hun])
    simp only [Array.toList_setIfInBounds]
    omega
theorem draw_sound {P : Program} {C : Ctx P} {ops : Array Oper} {id : Nat} {ρ0 ρ : Ren} {H0 H : Heap} {w0 w : World} {T : Tm} {a : Act} {K : Exit → Tm → Heap → Prop}
    (hOK : regionOK C ops = true) (hs : sOpsD C ops ops.toList T H (K .normal)) (hi : Inv P ρ0 H0 w0 ρ T H a w) : (Code.region id ops true).wp P (Post P ρ0 H0 w0 K) a w := by
  obtain ⟨vs, Hs, h0, h1, h2⟩ := run_of _ _ _ hs
  have dr : DRun C ops T vs Hs := ⟨hOK, fun i o hi => h1 i o (by simpa using hi)⟩
  refine wp_region_any C.mixed ?_
  have hdrew := adv_drew hi.adv.rep { w with drawn := w.drawn + 1 } rfl rfl rfl rfl
  refine draw_any (ρ0 := ρ0) (H0 := H0) (w0 := w0) dr (fun ρ' a' w' h => ⟨ρ', _, _, h2, h⟩) ops.size _ ρ 0 a _ ?_ ?_
  · simp
  · have none' : ∀ (l : List Oper) (k : Nat) (T : Tm), TD l k vs (fun k => (Array.replicate ops.size false).getD k false) T = T := by
      intro l
      induction l with
      | nil => intro k T; rfl
      | cons a l ih =>
        intro k T
        rw [TD, if_neg, ih]
        simp [Array.getElem?_replicate]
        split <;> simp
    have nol : ∀ i, ¬ Lst (Array.replicate ops.size false) i := by
      intro i h
      unfold Lst at h
      simp only [Array.getD_eq_getD_getElem?, Array.getElem?_replicate] at h
      split at h <;> simp at h
    refine ⟨by simp, fun j o ho hl => absurd hl (nol j), Nat.zero_le _, fun i o ho hn => ⟨fun hl => absurd hl (nol i), fun h => absurd h (by omega)⟩, by rw [h0]; exact hi.adv.trans hdrew, fun i hi' => ?_, ?_, hi.df⟩
    · have : i = 0 := by omega
      rw [this, h0]
      exact hi.adv.rep.cl
    · rw [none', h0]
      exact hi.rt
def renRow (σ : Nat → Nat) (r : Row) : Row := { r with cells := r.cells.map (mpS (renId σ)) }
structure RenOK (n : Nat) (H : Heap) (σ : Nat → Nat) (H' : Heap) : Prop where
  low : ∀ i, i < n → σ i = i
  len : n ≤ H'.length
  row : ∀ (i : Nat) (r : Row), H'[i]? = some (some r) → H[σ i]? = some (some (renRow σ r))
  inj : ∀ (i j : Nat) (r s : Row), H'[i]? = some (some r) → H'[j]? = some (some s) → σ i = σ j → i = j
  cl : Closed H'
theorem adv_ren {P : Program} {ρ0 ρ : Ren} {H0 H H' : Heap} {w0 w : World} {σ : Nat → Nat} (h : Adv P ρ0 H0 w0 ρ H w) (r : RenOK H0.length H σ H') : Adv P ρ0 H0 w0 (fun i => ρ (σ i)) H' w := by
  refine ⟨fun i hi => by rw [r.low i hi]; exact h.agree i hi, r.len, ⟨fun i s hi => ?_, fun i j s t hi hj hs ht hij => ?_, r.cl⟩, h.os, h.tape, h.output, h.size, h.frame, fun i s hi hs => ?_⟩
  · obtain ⟨⟨cur, e, fz, hb, hcu, hwr, hlen⟩, hsc⟩ := h.rep.row _ _ (r.row i s hi)
    refine ⟨⟨cur, e, fz, hb, fun j v hv => ?_, hwr, fun hbx => by have := hlen hbx; simpa [renRow] using this⟩, fun v hv => ?_⟩
    · have := hcu j (mpS (renId σ) v) (by simp [renRow, hv])
      rw [this, mapS, mpS_ren]
    · have := hsc (mpS (renId σ) v) (by simp only [renRow]; exact List.mem_map_of_mem hv)
      rwa [scal_mpS] at this
  · refine h.rep.sep (σ i) (σ j) _ _ (r.row i s hi) (r.row j t hj) hs ?_ (fun e => hij (r.inj i j s t hi hj e))
    rcases ht with ht | ht
    · exact Or.inl ht
    · exact Or.inr (by simpa [renRow] using ht)
  · exact h.fresh (σ i) _ (r.row i s hi) hs
structure Wk (n : Nat) (T : Tm) (H : Heap) (T' : Tm) (H' : Heap) : Prop where
  ex : ∃ σ : Nat → Nat, RenOK n H σ H' ∧ T'.length = T.length ∧ ∀ (t : Nat) (v : Value), T'[t]? = some (some v) → T[t]? = some (some (mpV (renId σ) v)) ∧ ∀ i ∈ idsV v, i < H'.length
theorem Wk.inv {P : Program} {ρ0 ρ : Ren} {H0 H H' : Heap} {w0 w : World} {T T' : Tm} {a : Act} (h : Inv P ρ0 H0 w0 ρ T H a w) (k : Wk H0.length T H T' H') : ∃ ρ', Inv P ρ0 H0 w0 ρ' T' H' a w := by
  obtain ⟨σ, hr, hl, ht⟩ := k.ex
  refine ⟨fun i => ρ (σ i), adv_ren h.adv hr, ⟨by rw [h.rt.size, hl], fun t v hv => ?_, fun t v hv => (ht t v hv).2⟩, h.df⟩
  rw [h.rt.at_ t _ (ht t v hv).1, mapV, mpV_ren]
def SubT (T' T : Tm) : Prop := T'.length = T.length ∧ ∀ (t : Nat) (v : Value), T'[t]? = some (some v) → T[t]? = some (some v)
theorem Inv.sub {P : Program} {ρ0 ρ : Ren} {H0 H : Heap} {w0 w : World} {T T' : Tm} {a : Act} (h : Inv P ρ0 H0 w0 ρ T H a w) (k : SubT T' T) : Inv P ρ0 H0 w0 ρ T' H a w :=
  ⟨h.adv, ⟨by rw [h.rt.size, k.1], fun t v hv => h.rt.at_ t v (k.2 t v hv), fun t v hv => h.rt.cl t v (k.2 t v hv)⟩, h.df⟩
def Less (K : Exit → Tm → Heap → Prop) : Exit → Tm → Heap → Prop := fun e T H => ∃ T1, SubT T1 T ∧ K e T1 H
theorem Less.post {P : Program} {ρ0 : Ren} {H0 : Heap} {w0 : World} {K : Exit → Tm → Heap → Prop} {e : Exit} {a : Act} {w : World} (h : Post P ρ0 H0 w0 (Less K) e a w) : Post P ρ0 H0 w0 K e a w := by
  obtain ⟨ρ, T, H, ⟨T1, hs, hk⟩, hi⟩ := h
  exact ⟨ρ, T1, H, hk, hi.sub hs⟩
theorem adv_drop {P : Program} {ρ0 ρ : Ren} {H0 H' E : Heap} {w0 w : World} (h : Adv P ρ0 H0 w0 ρ (H' ++ E) w) (hn : H0.length ≤ H'.length) (hc : Closed H') : Adv P ρ0 H0 w0 ρ H' w := by
  have hsub : ∀ (i : Nat) (r : Row), H'[i]? = some (some r) → (H' ++ E)[i]? = some (some r) := fun i r hi => by rw [List.getElem?_append_left (lt_of_some hi)]; exact hi
  exact ⟨h.agree, hn, ⟨fun i r hi => h.rep.row i r (hsub i r hi), fun i j r s hi hj => h.rep.sep i j r s (hsub i r hi) (hsub j s hj), hc⟩, h.os, h.tape, h.output, h.size, h.frame, fun i r hi hr => h.fresh i r (hsub i r hi) hr⟩
def WkAny (n : Nat) (T : Tm) (H : Heap) (T' : Tm) (H' : Heap) : Prop :=
  (SubT T' T ∧ H' = H) ∨ (SubT T' T ∧ (∃ E, H = H' ++ E) ∧ n ≤ H'.length ∧ Closed H' ∧ ∀ (t : Nat) (v : Value), T'[t]? = some (some v) → ∀ i ∈ idsV v, i < H'.length) ∨ Wk n T H T' H'
theorem WkAny.inv {P : Program} {ρ0 ρ : Ren} {H0 H H' : Heap} {w0 w : World} {T T' : Tm} {a : Act} (h : Inv P ρ0 H0 w0 ρ T H a w) (k : WkAny H0.length T H T' H') : ∃ ρ', Inv P ρ0 H0 w0 ρ' T' H' a w := by
  rcases k with ⟨hs, rfl⟩ | ⟨hs, ⟨E, rfl⟩, hn, hc, hi⟩ | k
  · exact ⟨ρ, h.sub hs⟩
  · exact ⟨ρ, adv_drop h.adv hn hc, ⟨(h.sub hs).rt.size, (h.sub hs).rt.at_, hi⟩, h.df⟩
  · exact k.inv h
def seqK (f : Tm → Heap → Prop) (K : Exit → Tm → Heap → Prop) : Exit → Tm → Heap → Prop
  | .normal, T, H => f T H
  | e, T, H => K e T H
def blkK (id : Nat) (K : Exit → Tm → Heap → Prop) : Exit → Tm → Heap → Prop
  | .exit i, T, H => if i = id then K .normal T H else K (.exit i) T H
  | e, T, H => K e T H
def loopK (n : Nat) (I : Nat → Tm → Heap → Prop) (m : Nat) (K : Exit → Tm → Heap → Prop) : Exit → Tm → Heap → Prop
  | .normal, T, H => ∃ m' T1 H1, m' < m ∧ WkAny n T H T1 H1 ∧ I m' T1 H1
  | e, T, H => K e T H
def sC {P : Program} (C : Ctx P) (n : Nat) : Code → Tm → Heap → (Exit → Tm → Heap → Prop) → Prop
  | .skip, T, H, K => K .normal T H
  | .region _ ops false, T, H, K => sOps C ops ops.toList T H (Less K .normal)
  | .region id ops true, T, H, K => (regionOK C ops = true ∧ sOpsD C ops ops.toList T H (Less K .normal)) ∨ ∀ (ρ0 ρ : Ren) (H0 : Heap) (w0 w : World) (a : Act), H0.length = n → Inv P ρ0 H0 w0 ρ T H a w → (Code.region id ops true).wp P (Post P ρ0 H0 w0 (Less K)) a w
  | .seq a b, T, H, K => sC C n a T H (seqK (fun T' H' => sC C n b T' H' K) K)
  | .cond c a b, T, H, K => ∃ t, evalO T c = some (.bool t) ∧ (t = true → sC C n a T H K) ∧ (t = false → sC C n b T H K)
  | .block id c, T, H, K => sC C n c T H (blkK id K)
  | .loop c, T, H, K => ∃ (I : Nat → Tm → Heap → Prop) (m : Nat) (T1 : Tm) (H1 : Heap), WkAny n T H T1 H1 ∧ I m T1 H1 ∧ ∀ m T H, I m T H → sC C n c T H (loopK n I m K)
  | .exit id, T, H, K => K (.exit id) T H
  | .ret, T, H, K => K .ret T H
  | _, _, _, _ => False
theorem sC_sound {P : Program} {C : Ctx P} {ρ0 : Ren} {H0 : Heap} {w0 : World} : ∀ (c : Code) (K : Exit → Tm → Heap → Prop) (ρ : Ren) (T : Tm) (H : Heap) (a : Act) (w : World),
    Inv P ρ0 H0 w0 ρ T H a w → sC C H0.length c T H K → c.wp P (Post P ρ0 H0 w0 K) a w
  | .skip, K, ρ, T, H, a, w, hi, hs => wp_skip ⟨ρ, T, H, hs, hi⟩
  | .region id ops d, K, ρ, T, H, a, w, hi, hs => by
    cases d with
    | false => exact wp_mono (wp_region_list (sOps_sound (K := Less K) ops.toList ρ T H a w hi hs)) fun _ _ _ h => Less.post h
    | true =>
      rcases hs with hs | hs
      · exact wp_mono (draw_sound (K := Less K) hs.1 hs.2 hi) fun _ _ _ h => Less.post h
      · exact wp_mono (hs _ _ _ _ _ _ rfl hi) fun _ _ _ h => Less.post h
  | .seq x y, K, ρ, T, H, a, w, hi, hs => by
    refine wp_seq (wp_mono (sC_sound x _ ρ T H a w hi hs) ?_)
    intro e a' w' ⟨ρ', T', H', hk, hi'⟩
    cases e with
    | normal => exact sC_sound y K ρ' T' H' a' w' hi' hk
    | _ => exact ⟨ρ', T', H', hk, hi'⟩
  | .cond c x y, K, ρ, T, H, a, w, hi, hs => by
    obtain ⟨t, hc, h1, h2⟩ := hs
    have he := (evalO_sound hi.rt hc).1
    have hb : mapV ρ (.bool t) = .bool t := rfl
    rw [hb] at he
    cases t with
    | true => exact wp_cond_true he (sC_sound x K ρ T H a w hi (h1 rfl))
    | false => exact wp_cond_false he (sC_sound y K ρ T H a w hi (h2 rfl))
  | .block id c, K, ρ, T, H, a, w, hi, hs => by
    refine wp_block (wp_mono (sC_sound c _ ρ T H a w hi hs) ?_)
    intro e a' w' ⟨ρ', T', H', hk, hi'⟩
    cases e with
    | exit i =>
      simp only [blkK] at hk
      simp only [Exit.inBlock]
      split at hk
      · rename_i h; rw [if_pos h]; exact ⟨ρ', T', H', hk, hi'⟩
      · rename_i h; rw [if_neg h]; exact ⟨ρ', T', H', hk, hi'⟩
    | _ => exact ⟨ρ', T', H', hk, hi'⟩
  | .loop c, K, ρ, T, H, a, w, hi, hs => by
    obtain ⟨I, m, T1, H1, hw, hI, hround⟩ := hs
    obtain ⟨ρ1, hi1⟩ := hw.inv hi
    refine wp_loop_ghost (fun m a w => ∃ ρ T H, I m T H ∧ Inv P ρ0 H0 w0 ρ T H a w) m ⟨ρ1, T1, H1, hI, hi1⟩ ?_
    rintro m a w ⟨ρ, T, H, hI, hi⟩
    refine wp_mono (sC_sound c _ ρ T H a w hi (hround m T H hI)) ?_
    intro e a' w' ⟨ρ', T', H', hk, hi'⟩
    cases e with
    | normal =>
      obtain ⟨m', T2, H2, hlt, hw2, hI2⟩ := hk
      obtain ⟨ρ2, hi2⟩ := hw2.inv hi'
      exact ⟨m', hlt, ρ2, T2, H2, hI2, hi2⟩
    | _ => exact ⟨ρ', T', H', hk, hi'⟩
  | .exit id, K, ρ, T, H, a, w, hi, hs => wp_exit ⟨ρ, T, H, hs, hi⟩
  | .ret, K, ρ, T, H, a, w, hi, hs => wp_ret ⟨ρ, T, H, hs, hi⟩
  | .rangeFunc .., _, _, _, _, _, _, _, hs => hs.elim
  | .scope _, _, _, _, _, _, _, _, hs => hs.elim
  | .label _, _, _, _, _, _, _, _, hs => hs.elim
  | .goto _, _, _, _, _, _, _, _, hs => hs.elim
  | .refuse _, _, _, _, _, _, _, _, hs => hs.elim
def isTup : Value → Bool
  | .tuple _ => true
  | _ => false
theorem notTup {v : Value} (h : isTup v = false) (m : Mp) : mpV m v = mpA m v ∧ idsV v = idsA v := by
  cases v <;> first | exact ⟨rfl, rfl⟩ | cases h
def resOf (P : Program) (T : Tm) (H : Heap) : List ResultVar → Option (List Value)
  | [] => some []
  | .tmp t :: r => match getT T t, resOf P T H r with
    | some v, some l => if isTup v = true then none else some (v :: l)
    | _, _ => none
  | .cell x t :: r => match getT T x, resOf P T H r with
    | some a, some l => (opLoad P H t a).map fun v => v :: l
    | _, _ => none
def packR : List Value → Value
  | [v] => v
  | l => .tuple l.toArray
theorem resOf_sound {P : Program} {ρ : Ren} {T : Tm} {H : Heap} {w : World} {a : Act} (hr : Rep P ρ H w) (ht : RT ρ H.length T a) : ∀ {rs : List ResultVar} {l : List Value}, resOf P T H rs = some l →
    (rs.mapM (fun r => match r with
      | .tmp t => pure (a.tmps.getD t undef)
      | .cell x t => do loadVar t (← asAddr (a.tmps.getD x undef)) : ResultVar → Sem Value)).run P w = .ok (l.map (mapA ρ)) w ∧ ∀ v ∈ l, isTup v = false ∧ ∀ i ∈ idsV v, i < H.length
  | [], l, h => by simp [resOf] at h; subst h; simp
  | .tmp t :: r, l, h => by
    simp only [resOf] at h
    cases hv : getT T t with
    | none => rw [hv] at h; simp at h
    | some v =>
      cases hl : resOf P T H r with
      | none => rw [hv, hl] at h; simp at h
      | some l' =>
        rw [hv, hl] at h
        simp only at h
        split at h
        · cases h
        · rename_i hnt
          simp only [Option.some.injEq] at h
          subst h
          obtain ⟨h1, h2⟩ := resOf_sound hr ht hl
          have hat := ht.at_ t _ (getT_some hv)
          have hnt' : isTup v = false := by simpa using hnt
          have hm := (notTup hnt' (toReal ρ)).1
          refine ⟨?_, fun u hu => ?_⟩
          · simp only [List.mapM_cons, Sem.run_bind, Sem.run_pure, Result.andThen_ok, h1, Array.getD_eq_getD_getElem?, hat, Option.getD_some, List.map_cons]
            simp only [Array.getD_eq_getD_getElem?] at h1
            rw [h1, mapV, hm]
            rfl
          · rcases List.mem_cons.1 hu with rfl | hu
            · exact ⟨hnt', ht.cl t _ (getT_some hv)⟩
            · exact h2 u hu
  | .cell x t :: r, l, h => by
    simp only [resOf] at h
    cases hv : getT T x with
    | none => rw [hv] at h; simp at h
    | some v =>
      cases hl : resOf P T H r with
      | none => rw [hv, hl] at h; simp at h
      | some l' =>
        rw [hv, hl] at h
        simp only at h
        cases ho : opLoad P H t v with
        | none => rw [ho] at h; cases h
        | some u =>
          rw [ho] at h
          simp only [Option.map_some, Option.some.injEq] at h
          subst h
          obtain ⟨h1, h2⟩ := resOf_sound hr ht hl
          have hat := ht.at_ x _ (getT_some hv)
          obtain ⟨⟨ad, rfl, hrun⟩, hcl, hnt⟩ := opLoad_run hr ho
          have hnt' : isTup u = false := by cases u <;> first | rfl | exact absurd rfl (hnt _)
          have hm := (notTup hnt' (toReal ρ)).1
          have haddr : mapV ρ (.pointer (some ad)) = .pointer (some ⟨(ρ ad.block).blk, (ρ ad.block).off + ad.off, none⟩) := rfl
          rw [haddr] at hat
          refine ⟨?_, fun y hy => ?_⟩
          · have hone : (do loadVar t (← asAddr (a.tmps.getD x undef)) : Sem Value).run P w = .ok (mapV ρ u) w := by
              simp [hat, asAddr, hrun]
            rw [List.mapM_cons, Sem.run_bind]
            simp only
            rw [hone]
            simp only [Result.andThen_ok]
            rw [Sem.run_bind, h1]
            simp only [Result.andThen_ok, Sem.run_pure, List.map_cons]
            rw [mapV, hm]
          · rcases List.mem_cons.1 hy with rfl | hy
            · exact ⟨hnt', hcl⟩
            · exact h2 y hy
theorem packR_sound {P : Program} {fn : Func} {ρ : Ren} {T : Tm} {H : Heap} {w : World} {a : Act} (hr : Rep P ρ H w) (ht : RT ρ H.length T a) {l : List Value} (h : resOf P T H fn.results.toList = some l) :
    (results fn a.tmps).run P w = .ok (mapV ρ (packR l)) w ∧ ∀ i ∈ idsV (packR l), i < H.length := by
  obtain ⟨h1, h2⟩ := resOf_sound hr ht h
  have h3 : (fn.results.mapM (fun r => match r with
      | .tmp t => pure (a.tmps.getD t undef)
      | .cell x t => do loadVar t (← asAddr (a.tmps.getD x undef)) : ResultVar → Sem Value)).run P w = .ok (l.map (mapA ρ)).toArray w := by
    rw [Array.mapM_eq_mapM_toList]
    simp only [Sem.run_map, h1, Result.andThen_ok]
  refine ⟨?_, ?_⟩
  · unfold results
    simp only [Sem.run_bind]
    erw [h3]
    simp only [Result.andThen_ok, Sem.run_pure]
    match l, h2 with
    | [], _ => simp [packR, mapV, mpV]
    | [v], h2 =>
      have := notTup (h2 v (by simp)).1 (toReal ρ)
      simp only [packR, mapV, this.1]
      rfl
    | u :: v :: r, _ =>
      rw [dif_neg (by simp)]
      simp [packR, mapV, mpV]
  · match l, h2 with
    | [], _ => simp [packR, idsV]
    | [v], h2 => exact (h2 v (by simp)).2
    | u :: v :: r, h2 =>
      intro i hi
      simp only [packR, idsV, List.mem_flatMap] at hi
      obtain ⟨x, hx, hi⟩ := hi
      have hx' : x ∈ u :: v :: r := by simpa using hx
      have := notTup (h2 x hx').1 (toReal (fun _ => ⟨0, 0, 0⟩))
      exact (h2 x hx').2 i (by rw [this.2]; exact hi)
def Ends (P : Program) (fn : Func) (n : Nat) (v : Value) (H' : Heap) (e : Exit) (T : Tm) (H : Heap) : Prop :=
  (e = .normal ∨ e = .ret) ∧ ((∃ l σ, resOf P T H fn.results.toList = some l ∧ packR l = mpV (renId σ) v ∧ RenOK n H σ H' ∧ ∀ i ∈ idsV v, i < H'.length) ∨
    ∃ l E, resOf P T H fn.results.toList = some l ∧ packR l = v ∧ H = H' ++ E ∧ n ≤ H'.length ∧ (E = [] ∨ Closed H') ∧ ∀ i ∈ idsV v, i < H'.length)
theorem sound_intro {P : Program} {C : Ctx P} {f : FuncId} {fn : Func} {c : Code} {args : List Value} {H H' : Heap} {v : Value} (hf : P.funcs[f]? = some fn) (hb : fn.body = some c) (hn : (fn.name == "runtime.NumGoroutine") = false)
    (h : Closed H → sC C H.length c (args.map some ++ List.replicate (fn.ntmps - args.length) (some undef)) H (Ends P fn H.length v H')) : Sound P f args H v H' := by
  refine ⟨⟨fn, hf, hn, by rw [hb]; rfl⟩, fun ρ w hr ha => ?_⟩
  refine calls_of_wp hf hb (wp_mono (sC_sound (ρ0 := ρ) (H0 := H) (w0 := w) c _ ρ _ H _ w ⟨Adv.refl hr, ⟨?_, fun t u hu => ?_, fun t u hu => ?_⟩, rfl⟩ (h hr.cl)) ?_)
  · simp
  · rcases Nat.lt_or_ge t args.length with hlt | hge
    · rw [List.getElem?_append_left (by simpa using hlt), List.getElem?_map] at hu
      rw [Array.getElem?_append_left (by simpa using hlt)]
      cases hx : args[t]? with
      | none => rw [hx] at hu; cases hu
      | some y =>
        rw [hx] at hu
        simp only [Option.map_some, Option.some.injEq] at hu
        subst hu
        simp [hx]
    · rw [List.getElem?_append_right (by simpa using hge), List.getElem?_replicate] at hu
      split at hu
      · rename_i hlt
        simp only [Option.some.injEq] at hu
        subst hu
        rw [Array.getElem?_append_right (by simpa using hge), Array.getElem?_replicate]
        simp only [List.length_map] at hlt
        simp only [List.size_toArray, List.length_map]
        rw [if_pos hlt]
        simp [undef, mapV, mpV]
      · cases hu
  · rcases Nat.lt_or_ge t args.length with hlt | hge
    · rw [List.getElem?_append_left (by simpa using hlt), List.getElem?_map] at hu
      cases hx : args[t]? with
      | none => rw [hx] at hu; cases hu
      | some y =>
        rw [hx] at hu
        simp only [Option.map_some, Option.some.injEq] at hu
        subst hu
        exact ha y (List.mem_of_getElem? hx)
    · rw [List.getElem?_append_right (by simpa using hge), List.getElem?_replicate] at hu
      split at hu
      · simp only [Option.some.injEq] at hu
        subst hu
        simp [undef, idsV]
      · cases hu
  · intro e a' w' ⟨ρ', T', H1, ⟨he, hor⟩, hi⟩
    have hfin : a'.defers = [] ∧ ∃ u, (results fn a'.tmps).run P w' = .ok u w' ∧ (∃ ρ'', Ending.returned u = .returned (mapV ρ'' v) ∧ Adv P ρ H w ρ'' H' w' ∧ ∀ i ∈ idsV v, i < H'.length) := by
      rcases hor with ⟨l, σ, hres, hpk, hren, hv⟩ | ⟨l, E, hres, hpk, rfl, hn, hc, hv⟩
      · obtain ⟨hrun, hcl⟩ := packR_sound (fn := fn) hi.adv.rep hi.rt hres
        exact ⟨hi.df, _, hrun, fun i => ρ' (σ i), by rw [hpk, mapV, mpV_ren], adv_ren hi.adv hren, hv⟩
      · obtain ⟨hrun, hcl⟩ := packR_sound (fn := fn) hi.adv.rep hi.rt hres
        have hc' : Closed H' := by
          rcases hc with rfl | hc
          · have := hi.adv.rep.cl
            rw [List.append_nil] at this
            exact this
          · exact hc
        exact ⟨hi.df, _, hrun, ρ', by rw [hpk], adv_drop hi.adv hn hc', hv⟩
    rcases he with rfl | rfl
    · exact hfin
    · exact hfin
end Go.Am
set_option linter.unusedVariables false
set_option linter.unusedSimpArgs false
namespace Go.Am
open Go.RowKit
def mkT (n : Nat) (l : List (Nat × Value)) : Tm := (List.range n).map fun i => l.lookup i
def keepT (ks : List Nat) (T : Tm) : Tm := mkT T.length (ks.filterMap fun i => (getT T i).map fun v => (i, v))
theorem lookup_keep {T : Tm} {j : Nat} {v : Value} : ∀ {ks : List Nat}, (ks.filterMap fun i => (getT T i).map fun v => (i, v)).lookup j = some v → getT T j = some v
  | [], h => by simp at h
  | k :: r, h => by
    simp only [List.filterMap_cons] at h
    cases hk : getT T k with
    | none => rw [hk] at h; exact lookup_keep h
    | some u =>
      rw [hk] at h
      simp only [Option.map_some, List.lookup_cons] at h
      split at h
      · rename_i hb
        have : j = k := by simpa using hb
        subst this
        simp only [Option.some.injEq] at h
        subst h
        exact hk
      · exact lookup_keep h
theorem sub_keep (ks : List Nat) (T : Tm) : SubT (keepT ks T) T := by
  refine ⟨by simp [keepT, mkT], fun t v hv => ?_⟩
  unfold keepT mkT at hv
  rw [List.getElem?_map] at hv
  cases hr : (List.range T.length)[t]? with
  | none => rw [hr] at hv; cases hv
  | some j =>
    rw [hr] at hv
    have hlt := lt_of_some hr
    rw [List.getElem?_range (by simpa using hlt)] at hr
    simp only [Option.some.injEq] at hr
    subst hr
    simp only [Option.map_some, Option.some.injEq] at hv
    exact getT_some (lookup_keep hv)
section
variable {P : Program} {C : Ctx P}
def evR (C : Ctx P) (ops : Array Oper) : Nat → List Oper → Tm → Heap → Option (Tm × Heap)
  | 0, _, T, H => some (T, H)
  | _ + 1, [], T, H => some (T, H)
  | k + 1, o :: r, T, H => match want? T ops o with
    | some true => match evOp C T H o.op with
      | some (v, H') => evR C ops k r (putT T o.dst v) H'
      | none => none
    | some false => evR C ops k r (putT T o.dst undef) H
    | none => none
theorem seg {ops : Array Oper} {K : Tm → Heap → Prop} {T1 : Tm} {H1 : Heap} : ∀ (k : Nat) {l : List Oper} {T : Tm} {H : Heap}, evR C ops k l T H = some (T1, H1) → sOps C ops (l.drop k) T1 H1 K → sOps C ops l T H K
  | 0, l, T, H, h, hk => by simp only [evR, Option.some.injEq, Prod.mk.injEq] at h; obtain ⟨rfl, rfl⟩ := h; exact hk
  | k + 1, [], T, H, h, hk => by simp only [evR, Option.some.injEq, Prod.mk.injEq] at h; obtain ⟨rfl, rfl⟩ := h; exact hk
  | k + 1, o :: r, T, H, h, hk => by
    simp only [evR] at h
    split at h
    · rename_i hw
      split at h
      · rename_i v H' he
        simp only [sOps, hw]
        exact ⟨fun _ => ⟨v, H', .op he, seg k h hk⟩, fun h => by cases h⟩
      · cases h
    · rename_i hw
      simp only [sOps, hw]
      exact ⟨fun h => (by cases h), fun _ => seg k h hk⟩
    · cases h
theorem segEnd {ops : Array Oper} {K : Exit → Tm → Heap → Prop} (ks : List Nat) {T1 : Tm} {H1 : Heap} {l : List Oper} {T : Tm} {H : Heap}
    (h : ((evR C ops l.length l T H).map fun p => (keepT ks p.1, p.2)) = some (T1, H1)) (hk : K .normal T1 H1) : sOps C ops l T H (Less K .normal) := by
  cases he : evR C ops l.length l T H with
  | none => rw [he] at h; cases h
  | some p =>
    rw [he] at h
    simp only [Option.map_some, Option.some.injEq, Prod.mk.injEq] at h
    obtain ⟨rfl, rfl⟩ := h
    refine seg l.length he ?_
    simp only [List.drop_length, sOps]
    exact ⟨_, sub_keep ks _, hk⟩
theorem rOp {ops : Array Oper} {K : Tm → Heap → Prop} {o : Oper} {r : List Oper} {T : Tm} {H H' : Heap} {v : Value} (hw : want? T ops o = some true) (he : evOp C T H o.op = some (v, H')) (hk : sOps C ops r (putT T o.dst v) H' K) : sOps C ops (o :: r) T H K := by
  simp only [sOps, hw]
  exact ⟨fun _ => ⟨v, H', .op he, hk⟩, fun h => by cases h⟩
theorem rCall {ops : Array Oper} {K : Tm → Heap → Prop} {o : Oper} {r : List Oper} {T : Tm} {H H' : Heap} {v : Value} {c : Call} {f : FuncId} {args : List Value} (hw : want? T ops o = some true) (ho : o.op = .call c) (hc : calleeOf T c = some (f, args))
    (hS : Sound P f args H v H') (hk : sOps C ops r (putT T o.dst v) H' K) : sOps C ops (o :: r) T H K := by
  simp only [sOps, hw]
  exact ⟨fun _ => ⟨v, H', .call c f args ho hc hS, hk⟩, fun h => by cases h⟩
theorem evOp_slice_len {T : Tm} {H H' : Heap} {op : Op} {v : Value} (hr : isRead op = true) (h : evOp C T H op = some (v, H')) (hl : H'.length = H.length) : H' = H := by
  cases op with
  | load t x =>
    simp only [evOp, Option.bind_eq_some_iff, Option.map_eq_some_iff, Prod.mk.injEq] at h
    obtain ⟨_, _, _, _, _, rfl⟩ := h
    rfl
  | slice t x lo hi mx =>
    cases mx with
    | some m => simp [evOp] at h
    | none =>
      simp only [evOp] at h
      split at h
      · unfold opSlice at h
        repeat' split at h
        all_goals first
          | (simp only [Option.some.injEq, Prod.mk.injEq] at h; obtain ⟨_, rfl⟩ := h; rfl)
          | (simp only [Option.some.injEq, Prod.mk.injEq] at h; obtain ⟨_, rfl⟩ := h; simp at hl)
          | cases h
      · cases h
  | _ => simp [isRead] at hr
theorem evOp_new {T : Tm} {H H' : Heap} {op : Op} {v : Value} (hn : clsOf C op = .N) (h : evOp C T H op = some (v, H')) : ∃ E, H' = H ++ E := by
  unfold clsOf at hn
  split at hn
  · cases hn
  · split at hn
    · cases hn
    · split at hn
      · simp [evOp] at h
      · cases hn
      · simp only [evOp, opAlloc] at h
        repeat' split at h
        all_goals first
          | (simp only [Option.some.injEq, Prod.mk.injEq] at h; obtain ⟨_, rfl⟩ := h; exact ⟨_, rfl⟩)
          | cases h
      · simp only [evOp, opBox, Option.bind_eq_some_iff] at h
        obtain ⟨_, _, h⟩ := h
        split at h
        · simp only [Option.some.injEq, Prod.mk.injEq] at h; obtain ⟨_, rfl⟩ := h; exact ⟨_, rfl⟩
        · cases h
      · simp only [evOp, opMake] at h
        repeat' split at h
        all_goals first
          | (simp only [Option.some.injEq, Prod.mk.injEq] at h; obtain ⟨_, rfl⟩ := h; exact ⟨_, rfl⟩)
          | cases h
      · simp only [evOp, opBuildSlice, Option.bind_eq_some_iff] at h
        obtain ⟨_, _, h⟩ := h
        repeat' split at h
        all_goals first
          | (simp only [Option.map_eq_some_iff, Prod.mk.injEq] at h; obtain ⟨_, _, _, rfl⟩ := h; exact ⟨_, rfl⟩)
          | cases h
      · cases hn
theorem stepD_of {T : Tm} {H H' : Heap} {op : Op} {v : Value} (h : evOp C T H op = some (v, H')) (hq : clsOf C op = .Q → H'.length = H.length) : StepD C T H op v H' := by
  unfold StepD
  cases hc : clsOf C op with
  | P => exact h
  | S => exact .op h
  | N => obtain ⟨E, rfl⟩ := evOp_new hc h; exact ⟨E, rfl, .op h⟩
  | Q =>
    have hr : isRead op = true := by
      unfold clsOf at hc
      split at hc
      · cases hc
      · split at hc
        · assumption
        · split at hc <;> first
            | cases hc
            | skip
          all_goals simp [evOp] at h
    have := evOp_slice_len hr h (hq hc)
    subst this
    exact ⟨rfl, Or.inl ⟨hr, h⟩⟩
def evRD (C : Ctx P) (ops : Array Oper) : Nat → List Oper → Tm → Heap → Option (Tm × Heap)
  | 0, _, T, H => some (T, H)
  | _ + 1, [], T, H => some (T, H)
  | k + 1, o :: r, T, H => match want? T ops o with
    | some true => match evOp C T H o.op with
      | some (v, H') => if clsOf C o.op = .Q ∧ H'.length ≠ H.length then none else evRD C ops k r (putT T o.dst v) H'
      | none => none
    | some false => evRD C ops k r (putT T o.dst undef) H
    | none => none
theorem segD {ops : Array Oper} {K : Tm → Heap → Prop} {T1 : Tm} {H1 : Heap} : ∀ (k : Nat) {l : List Oper} {T : Tm} {H : Heap}, evRD C ops k l T H = some (T1, H1) → sOpsD C ops (l.drop k) T1 H1 K → sOpsD C ops l T H K
  | 0, l, T, H, h, hk => by simp only [evRD, Option.some.injEq, Prod.mk.injEq] at h; obtain ⟨rfl, rfl⟩ := h; exact hk
  | k + 1, [], T, H, h, hk => by simp only [evRD, Option.some.injEq, Prod.mk.injEq] at h; obtain ⟨rfl, rfl⟩ := h; exact hk
  | k + 1, o :: r, T, H, h, hk => by
    simp only [evRD] at h
    split at h
    · rename_i hw
      split at h
      · rename_i v H' he
        split at h
        · cases h
        · rename_i hq
          simp only [sOpsD, hw]
          exact ⟨fun _ => ⟨v, H', stepD_of he fun hc => Classical.byContradiction fun hn => hq ⟨hc, hn⟩, segD k h hk⟩, fun h => by cases h⟩
      · cases h
    · rename_i hw
      simp only [sOpsD, hw]
      exact ⟨fun h => (by cases h), fun _ => segD k h hk⟩
    · cases h
theorem segEndD {ops : Array Oper} {K : Exit → Tm → Heap → Prop} (ks : List Nat) {T1 : Tm} {H1 : Heap} {l : List Oper} {T : Tm} {H : Heap}
    (h : ((evRD C ops l.length l T H).map fun p => (keepT ks p.1, p.2)) = some (T1, H1)) (hk : K .normal T1 H1) : sOpsD C ops l T H (Less K .normal) := by
  cases he : evRD C ops l.length l T H with
  | none => rw [he] at h; cases h
  | some p =>
    rw [he] at h
    simp only [Option.map_some, Option.some.injEq, Prod.mk.injEq] at h
    obtain ⟨rfl, rfl⟩ := h
    refine segD l.length he ?_
    simp only [List.drop_length, sOpsD]
    exact ⟨_, sub_keep ks _, hk⟩
theorem rOpD {ops : Array Oper} {K : Tm → Heap → Prop} {o : Oper} {r : List Oper} {T : Tm} {H H' : Heap} {v : Value} (hw : want? T ops o = some true) (he : evOp C T H o.op = some (v, H')) (hq : (clsOf C o.op != .Q || H'.length == H.length) = true) (hk : sOpsD C ops r (putT T o.dst v) H' K) : sOpsD C ops (o :: r) T H K := by
  simp only [sOpsD, hw]
  exact ⟨fun _ => ⟨v, H', stepD_of he fun hc => by simpa [hc] using hq, hk⟩, fun h => by cases h⟩
theorem rCallQ {ops : Array Oper} {K : Tm → Heap → Prop} {o : Oper} {r : List Oper} {T : Tm} {H : Heap} {v : Value} {c : Call} {f : FuncId} {args : List Value} (hw : want? T ops o = some true) (ho : o.op = .call c) (hcls : clsOf C (.call c) = .Q) (hc : calleeOf T c = some (f, args))
    (hids : (args.all fun x => (idsV x).all fun i => decide (i < H.length)) = true) (hS : Quiet P f args H v) (hk : sOpsD C ops r (putT T o.dst v) H K) : sOpsD C ops (o :: r) T H K := by
  simp only [sOpsD, hw]
  refine ⟨fun _ => ⟨v, H, ?_, hk⟩, fun h => by cases h⟩
  unfold StepD
  rw [ho, hcls]
  refine ⟨rfl, Or.inr ⟨c, f, args, rfl, hc, hS, fun x hx i hi => ?_⟩⟩
  simp only [List.all_eq_true, decide_eq_true_eq] at hids
  exact hids x hx i hi
variable {n : Nat} {T : Tm} {H : Heap} {K : Exit → Tm → Heap → Prop}
theorem cSkip (h : K .normal T H) : sC C n .skip T H K := h
theorem cReg {id : Nat} {ops : Array Oper} (h : sOps C ops ops.toList T H (Less K .normal)) : sC C n (.region id ops false) T H K := h
theorem cRegD {id : Nat} {ops : Array Oper} (h0 : regionOK C ops = true) (h : sOpsD C ops ops.toList T H (Less K .normal)) : sC C n (.region id ops true) T H K := Or.inl ⟨h0, h⟩
theorem cSeq {a b : Code} (h : sC C n a T H (seqK (fun T' H' => sC C n b T' H' K) K)) : sC C n (.seq a b) T H K := h
theorem cTrue {c : Operand} {a b : Code} (h : evalO T c = some (.bool true)) (h1 : sC C n a T H K) : sC C n (.cond c a b) T H K := ⟨true, h, fun _ => h1, fun h => by cases h⟩
theorem cFalse {c : Operand} {a b : Code} (h : evalO T c = some (.bool false)) (h1 : sC C n b T H K) : sC C n (.cond c a b) T H K := ⟨false, h, fun h => (by cases h), fun _ => h1⟩
theorem cBlk {id : Nat} {c : Code} (h : sC C n c T H (blkK id K)) : sC C n (.block id c) T H K := h
theorem cLoop {c : Code} (I : Nat → Tm → Heap → Prop) (m : Nat) (T1 : Tm) (H1 : Heap) (hw : WkAny n T H T1 H1) (hI : I m T1 H1) (h : ∀ m T H, I m T H → sC C n c T H (loopK n I m K)) : sC C n (.loop c) T H K := ⟨I, m, T1, H1, hw, hI, h⟩
theorem cExit {id : Nat} (h : K (.exit id) T H) : sC C n (.exit id) T H K := h
theorem cRet (h : K .ret T H) : sC C n .ret T H K := h
theorem kSeq {f : Tm → Heap → Prop} (h : f T H) : seqK f K .normal T H := h
theorem kSeqE {f : Tm → Heap → Prop} {i : Nat} (h : K (.exit i) T H) : seqK f K (.exit i) T H := h
theorem kSeqR {f : Tm → Heap → Prop} (h : K .ret T H) : seqK f K .ret T H := h
theorem kBlk {id : Nat} (h : K .normal T H) : blkK id K .normal T H := h
theorem kBlkHit {id : Nat} (h : K .normal T H) : blkK id K (.exit id) T H := by simp only [blkK, if_true]; exact h
theorem kBlkR {id : Nat} (h : K .ret T H) : blkK id K .ret T H := h
theorem kLoopE {I : Nat → Tm → Heap → Prop} {m i : Nat} (h : K (.exit i) T H) : loopK n I m K (.exit i) T H := h
theorem kLoopR {I : Nat → Tm → Heap → Prop} {m : Nat} (h : K .ret T H) : loopK n I m K .ret T H := h
theorem kLoop {I : Nat → Tm → Heap → Prop} {m : Nat} (m' : Nat) (T1 : Tm) (H1 : Heap) (hlt : m' < m) (hw : WkAny n T H T1 H1) (hI : I m' T1 H1) : loopK n I m K .normal T H := ⟨m', T1, H1, hlt, hw, hI⟩
end
theorem wkSame {n : Nat} {T : Tm} {H : Heap} {T' : Tm} (ks : List Nat) (h : keepT ks T = T') : WkAny n T H T' H := Or.inl ⟨h ▸ sub_keep ks T, rfl⟩
def idsLt (k : Nat) (T : Tm) : Bool := T.all fun o => match o with
  | some v => (idsV v).all fun i => decide (i < k)
  | none => true
theorem idsLt_spec {k : Nat} {T : Tm} (h : idsLt k T = true) (t : Nat) (v : Value) (hv : T[t]? = some (some v)) : ∀ i ∈ idsV v, i < k := by
  intro i hi
  simp only [idsLt, List.all_eq_true] at h
  have := h (some v) (List.mem_of_getElem? hv)
  simp only [List.all_eq_true, decide_eq_true_eq] at this
  exact this i hi
def FlatRow (r : Row) : Prop := ∀ v ∈ r.cells, idsS v = [] ∧ ∀ m : Mp, mpS m v = v
def FlatH (H : Heap) : Prop := ∀ r, some r ∈ H → FlatRow r
theorem FlatH.nil : FlatH [] := fun r h => by simp at h
theorem FlatH.cons {r : Row} {H : Heap} (h : FlatRow r) (hH : FlatH H) : FlatH (some r :: H) := fun s hs => by
  rcases List.mem_cons.1 hs with hs | hs
  · simp only [Option.some.injEq] at hs; subst hs; exact h
  · exact hH s hs
theorem FlatH.closed {H : Heap} (h : FlatH H) : Closed H := fun i r hi v hv k hk => by
  rw [(h r (List.mem_of_getElem? hi) v hv).1] at hk
  cases hk
theorem FlatRow.ren {r : Row} (h : FlatRow r) (σ : Nat → Nat) : renRow σ r = r := by
  unfold renRow
  have : r.cells.map (mpS (renId σ)) = r.cells := by
    conv => rhs; rw [← List.map_id r.cells]
    exact List.map_congr_left fun v hv => (h v hv).2 _
  rw [this]
theorem flatRow_of {r : Row} (h : r.cells.all flat = true) : FlatRow r := fun v hv => by
  have := (List.all_eq_true.1 h) v hv
  exact ⟨idsS_flat this, fun m => mpS_flat this⟩
theorem wkDrop {n : Nat} {T : Tm} {H H' : Heap} {T' : Tm} (ks : List Nat) (E : Heap) (hE : H = H' ++ E) (hn : (decide (n ≤ H'.length)) = true) (hc : Closed H') (h : keepT ks T = T') (hi : idsLt H'.length T' = true) : WkAny n T H T' H' :=
  Or.inr (Or.inl ⟨h ▸ sub_keep ks T, ⟨E, hE⟩, by simpa using hn, hc, idsLt_spec hi⟩)
end Go.Am
set_option linter.unusedVariables false
set_option linter.unusedSimpArgs false
namespace Go.Am
open Go.RowKit
theorem idsP_ren (σ : Nat → Nat) (v : Value) : idsP (mpP (renId σ) v) = (idsP v).map σ := by
  cases v with
  | pointer a => cases a <;> rfl
  | slice a n c => cases a <;> rfl
  | _ => rfl
theorem flatMap_ren {f g : Value → List Nat} {m : Value → Value} {σ : Nat → Nat} (h : ∀ v, f (m v) = (g v).map σ) : ∀ l : List Value, (l.map m).flatMap f = (l.flatMap g).map σ
  | [] => rfl
  | a :: l => by simp [h, flatMap_ren h l]
theorem idsS_ren (σ : Nat → Nat) (v : Value) : idsS (mpS (renId σ) v) = (idsS v).map σ := by
  cases v with
  | func fn first cap => simp only [mpS, idsS, Array.toList_map, ← List.map_append]; exact flatMap_ren (idsP_ren σ) _
  | pointer a => cases a <;> rfl
  | slice a n c => cases a <;> rfl
  | _ => rfl
theorem idsA_ren (σ : Nat → Nat) (v : Value) : idsA (mpA (renId σ) v) = (idsA v).map σ := by
  cases v with
  | agg cs => simp only [mpA, idsA, Array.toList_map]; exact flatMap_ren (idsS_ren σ) _
  | func fn first cap => exact idsS_ren σ (.func fn first cap)
  | pointer a => cases a <;> rfl
  | slice a n c => cases a <;> rfl
  | _ => rfl
theorem idsV_ren (σ : Nat → Nat) (v : Value) : idsV (mpV (renId σ) v) = (idsV v).map σ := by
  cases v with
  | tuple cs => simp only [mpV, idsV, Array.toList_map]; exact flatMap_ren (idsA_ren σ) _
  | agg cs => exact idsA_ren σ (.agg cs)
  | func fn first cap => exact idsS_ren σ (.func fn first cap)
  | pointer a => cases a <;> rfl
  | slice a n c => cases a <;> rfl
  | _ => rfl
def shift (k n : Nat) (σ : Nat → Nat) (i : Nat) : Nat := if i < k then σ i else n + (i - k)
structure Emb (H0 H : Heap) (σ : Nat → Nat) : Prop where
  lt : ∀ i, i < H0.length → σ i < H.length
  row : ∀ (i : Nat) (r : Row), H0[i]? = some (some r) → ∃ b : Bool, (r.wr = true → b = true) ∧ H[σ i]? = some (some { renRow σ r with wr := b })
  inj : ∀ (i j : Nat) (r s : Row), H0[i]? = some (some r) → H0[j]? = some (some s) → r.wr = true → i ≠ j → σ i ≠ σ j
theorem Sound.emb {P : Program} {f : FuncId} {args0 args : List Value} {H0 E0 H E : Heap} {v0 v : Value} (σ : Nat → Nat) (hS : Sound P f args0 H0 v0 (H0 ++ E0)) (he : Emb H0 H σ) (hcl : Closed H0)
    (hE0 : ∀ r, some r ∈ E0 → r.wr = true ∨ r.cells = []) (ha0 : ∀ x ∈ args0, ∀ i ∈ idsV x, i < H0.length)
    (ha : args = args0.map (mpV (renId σ))) (hv : v = mpV (renId (shift H0.length H.length σ)) v0)
    (hE : E = E0.map (Option.map (renRow (shift H0.length H.length σ)))) : Sound P f args H v (H ++ E) := by
  subst ha hv hE
  refine ⟨hS.can, fun ρ w hr hargs => ?_⟩
  have hrow : ∀ (i : Nat) (r : Row), H0[i]? = some (some r) → RepRow P (fun i => ρ (σ i)) w (ρ (σ i)) r := by
    intro i r hi
    obtain ⟨b, hb, hHi⟩ := he.row i r hi
    obtain ⟨⟨cur, e, fz, hbk, hcu, hwr, hlen⟩, hsc⟩ := hr.row _ _ hHi
    refine ⟨⟨cur, e, fz, hbk, fun j v hv => ?_, fun hw => hwr (hb hw), fun hbx => by have := hlen hbx; simpa [renRow] using this⟩, fun v hv => ?_⟩
    · have := hcu j (mpS (renId σ) v) (by simp [renRow, hv])
      rw [this, mapS, mpS_ren]
    · have := hsc (mpS (renId σ) v) (by simp only [renRow]; exact List.mem_map_of_mem hv)
      rwa [scal_mpS] at this
  have hrep0 : Rep P (fun i => ρ (σ i)) H0 w := by
    refine ⟨hrow, fun i j r s hi hj hs ht hij => ?_, hcl⟩
    obtain ⟨b, hb, hHi⟩ := he.row i r hi
    obtain ⟨c, hc, hHj⟩ := he.row j s hj
    refine hr.sep (σ i) (σ j) _ _ hHi hHj (hb hs) ?_ (he.inj i j r s hi hj hs hij)
    rcases ht with ht | ht
    · exact Or.inl (hc ht)
    · exact Or.inr (by simpa [renRow] using ht)
  have hargs0 : (args0.map (mpV (renId σ))).map (mapV ρ) = args0.map (mapV fun i => ρ (σ i)) := by
    rw [List.map_map]
    exact List.map_congr_left fun x _ => mpV_ren ρ σ x
  rw [hargs0]
  refine (hS.run (fun i => ρ (σ i)) w hrep0 ha0).mono fun e w' hh => ?_
  obtain ⟨ρ0, rfl, ad, hvi⟩ := hh
  let τ := shift H0.length H.length σ
  let ρ' : Ren := fun i => if i < H.length then ρ i else ρ0 (H0.length + (i - H.length))
  have hτ : ∀ i, i < (H0 ++ E0).length → ρ' (τ i) = ρ0 i := by
    intro i hi
    simp only [ρ', τ, shift]
    by_cases h : i < H0.length
    · rw [if_pos h, if_pos (he.lt i h), ad.agree i h]
    · rw [if_neg h, if_neg (by omega)]
      congr 1
      omega
  have hmv : mapV ρ0 v0 = mapV ρ' (mpV (renId τ) v0) := by
    rw [mapV, mapV, mpV_ren]
    exact (mapV_agree (ρ := ρ0) (ρ' := fun i => ρ' (τ i)) fun i hi => hτ i (hvi i hi)).symm
  have hag : ∀ i, i < H.length → ρ' i = ρ i := fun i hi => by simp only [ρ', if_pos hi]
  have hnew : ∀ (k : Nat) (r : Row), (E0.map (Option.map (renRow τ)))[k]? = some (some r) → ∃ r0, E0[k]? = some (some r0) ∧ r = renRow τ r0 := by
    intro k r hk
    rw [List.getElem?_map] at hk
    cases h : E0[k]? with
    | none => rw [h] at hk; cases hk
    | some o =>
      rw [h] at hk
      cases o with
      | none => simp at hk
      | some r0 => simp at hk; exact ⟨r0, rfl, hk.symm⟩
  have hE0i : ∀ (k : Nat) (r0 : Row), E0[k]? = some (some r0) → (H0 ++ E0)[H0.length + k]? = some (some r0) := fun k r0 hk => by
    rw [List.getElem?_append_right (by omega)]; simpa using hk
  have hsplit : ∀ (i : Nat) (r : Row), (H ++ E0.map (Option.map (renRow τ)))[i]? = some (some r) → (i < H.length ∧ H[i]? = some (some r)) ∨ ∃ k r0, i = H.length + k ∧ E0[k]? = some (some r0) ∧ r = renRow τ r0 := by
    intro i r hi
    rcases Nat.lt_or_ge i H.length with h | h
    · rw [List.getElem?_append_left h] at hi; exact Or.inl ⟨h, hi⟩
    · rw [List.getElem?_append_right h] at hi
      obtain ⟨r0, h1, h2⟩ := hnew _ _ hi
      exact Or.inr ⟨i - H.length, r0, by omega, h1, h2⟩
  have hρn : ∀ k, ρ' (H.length + k) = ρ0 (H0.length + k) := fun k => by
    simp only [ρ']
    rw [if_neg (by omega)]
    congr 1
    omega
  have hmem : ∀ (k : Nat) (r0 : Row), E0[k]? = some (some r0) → some r0 ∈ E0 := fun k r0 h => List.mem_of_getElem? h
  have hold : ∀ (i : Nat) (r : Row), H[i]? = some (some r) → RepRow P ρ' w' (ρ i) r := by
    intro i r hi
    have hR := hr.row i r hi
    have hag2 : ∀ v ∈ r.cells, mapS ρ' v = mapS ρ v := fun v hv => mapS_agree fun k hk => hag k (hr.cl i r hi v hv k hk)
    by_cases hw : ∃ (j : Nat) (s : Row), H0[j]? = some (some s) ∧ s.wr = true ∧ (ρ (σ j)).blk = (ρ i).blk
    · obtain ⟨j, s, hj, hs, hb⟩ := hw
      obtain ⟨b, hbt, hHj⟩ := he.row j s hj
      have hjl := lt_of_some hj
      by_cases hij : i = σ j
      · subst hij
        rw [hi] at hHj
        simp only [Option.some.injEq] at hHj
        have hR2 := ad.rep.row j s (by rw [List.getElem?_append_left hjl]; exact hj)
        have hag3 := ad.agree j hjl
        rw [hag3] at hR2
        obtain ⟨⟨cur, e, fz, h1, h2, h3, h4⟩, h5⟩ := hR2
        subst hHj
        refine ⟨⟨cur, e, fz, h1, fun k v hv => ?_, fun _ => h3 hs, fun hx => by simpa [renRow] using h4 hx⟩, fun v hv => ?_⟩
        · simp only [renRow, List.getElem?_map] at hv
          cases hx : s.cells[k]? with
          | none => rw [hx] at hv; cases hv
          | some u =>
            rw [hx] at hv
            simp only [Option.map_some, Option.some.injEq] at hv
            subst hv
            rw [h2 k u hx]
            have hids : ∀ q ∈ idsS u, q < H0.length := fun q hq => hcl j s hj u (List.mem_of_getElem? hx) q hq
            rw [mapS, mapS, mpS_ren]
            congr 1
            refine mapS_agree fun q hq => ?_
            have := hids q hq
            rw [hag _ (he.lt q this), ad.agree q this]
        · simp only [renRow, List.mem_map] at hv
          obtain ⟨u, hu, rfl⟩ := hv
          rw [scal_mpS]; exact h5 u hu
      · have hq : ¬ (r.wr = true ∨ r.cells ≠ []) := fun hq => hr.sep (σ j) i _ r hHj hi (hbt hs) hq (fun h => hij h.symm) hb
        have hnil : r.cells = [] := Classical.byContradiction fun hn => hq (Or.inr hn)
        have hR2 := ad.rep.row j s (by rw [List.getElem?_append_left hjl]; exact hj)
        have hag3 := ad.agree j hjl
        rw [hag3] at hR2
        obtain ⟨⟨cur2, e2, fz2, hb2, _⟩, _⟩ := hR2
        obtain ⟨⟨cur, e, fz, hb1, hcu, hwr, hlen⟩, hsc⟩ := hR
        exact ⟨⟨cur2, e2, fz2, by rw [← hb]; exact hb2, (fun k v hv => by rw [hnil] at hv; simp at hv), (fun hw2 => absurd (Or.inl hw2) hq), hlen⟩, hsc⟩
    · have hfr := ad.frame _ hR.lt fun j s hj hs hb => hw ⟨j, s, hj, hs, hb⟩
      obtain ⟨⟨cur, e, fz, h1, h2, h3, h4⟩, h5⟩ := hR.world hfr
      exact ⟨⟨cur, e, fz, h1, fun k v hv => by rw [h2 k v hv, hag2 v (List.mem_of_getElem? hv)], h3, h4⟩, h5⟩
  have hnewblk : ∀ (k : Nat) (r0 : Row), E0[k]? = some (some r0) → r0.wr = true → w.heap.size ≤ (ρ0 (H0.length + k)).blk := by
    intro k r0 hk hw
    rcases ad.fresh (H0.length + k) r0 (hE0i k r0 hk) hw with h | ⟨j, s, hj, hs, hb⟩
    · exact h
    · exfalso
      have hjl := lt_of_some hj
      refine ad.rep.sep (H0.length + k) j r0 s (hE0i k r0 hk) (by rw [List.getElem?_append_left hjl]; exact hj) hw (Or.inl hs) (by omega) ?_
      rw [ad.agree j hjl]
      exact hb.symm
  refine ⟨ρ', by rw [hmv], ⟨hag, by simp, ⟨?_, ?_, ?_⟩, ad.os, ad.tape, ad.output, ad.size, ?_, ?_⟩, ?_⟩
  · intro i r hi
    rcases hsplit i r hi with ⟨h, hi'⟩ | ⟨k, r0, rfl, hk, rfl⟩
    · rw [hag i h]; exact hold i r hi'
    · rw [hρn]
      obtain ⟨⟨cur, e, fz, h1, h2, h3, h4⟩, h5⟩ := ad.rep.row _ _ (hE0i k r0 hk)
      refine ⟨⟨cur, e, fz, h1, fun j v hv => ?_, h3, fun hx => by simpa [renRow] using h4 hx⟩, fun v hv => ?_⟩
      · simp only [renRow, List.getElem?_map] at hv
        cases hx : r0.cells[j]? with
        | none => rw [hx] at hv; cases hv
        | some u =>
          rw [hx] at hv
          simp only [Option.map_some, Option.some.injEq] at hv
          subst hv
          rw [h2 j u hx, mapS, mapS, mpS_ren]
          congr 1
          exact (mapS_agree (ρ := ρ0) (ρ' := fun i => ρ' (τ i)) fun q hq => hτ q (ad.rep.cl _ _ (hE0i k r0 hk) u (List.mem_of_getElem? hx) q hq)).symm
      · simp only [renRow, List.mem_map] at hv
        obtain ⟨u, hu, rfl⟩ := hv
        rw [scal_mpS]; exact h5 u hu
  · intro i j r s hi hj hw ht hij
    rcases hsplit i r hi with ⟨h, hi'⟩ | ⟨k, r0, rfl, hk, rfl⟩
    · rcases hsplit j s hj with ⟨h2, hj'⟩ | ⟨k2, s0, rfl, hk2, rfl⟩
      · rw [hag i h, hag j h2]; exact hr.sep i j r s hi' hj' hw ht hij
      · rw [hag i h, hρn]
        have hlt := (hr.row i r hi').lt
        rcases hE0 s0 (hmem k2 s0 hk2) with hs | hs
        · have := hnewblk k2 s0 hk2 hs
          omega
        · rcases ht with ht | ht
          · have := hnewblk k2 s0 hk2 ht
            omega
          · simp [renRow, hs] at ht
    · rcases hsplit j s hj with ⟨h2, hj'⟩ | ⟨k2, s0, rfl, hk2, rfl⟩
      · rw [hag j h2, hρn]
        have hlt := (hr.row j s hj').lt
        have := hnewblk k r0 hk hw
        omega
      · rw [hρn, hρn]
        refine ad.rep.sep _ _ r0 s0 (hE0i k r0 hk) (hE0i k2 s0 hk2) hw ?_ (by omega)
        rcases ht with ht | ht
        · exact Or.inl ht
        · exact Or.inr (by simpa [renRow] using ht)
  · intro i r hi v hv q hq
    rcases hsplit i r hi with ⟨h, hi'⟩ | ⟨k, r0, rfl, hk, rfl⟩
    · have := hr.cl i r hi' v hv q hq
      simp; omega
    · simp only [renRow, List.mem_map] at hv
      obtain ⟨u, hu, rfl⟩ := hv
      rw [idsS_ren] at hq
      obtain ⟨q0, hq0, rfl⟩ := List.mem_map.1 hq
      have := ad.rep.cl _ _ (hE0i k r0 hk) u hu q0 hq0
      simp only [τ, shift, List.length_append, List.length_map] at this ⊢
      by_cases h : q0 < H0.length
      · rw [if_pos h]; have := he.lt q0 h; omega
      · rw [if_neg h]; omega
  · intro k hk hn
    refine ad.frame k hk fun j s hj hs => ?_
    obtain ⟨b, hb, hHj⟩ := he.row j s hj
    exact hn (σ j) _ hHj (hb hs)
  · intro i r hi hw
    rcases hsplit i r hi with ⟨h, hi'⟩ | ⟨k, r0, rfl, hk, rfl⟩
    · exact Or.inr ⟨i, r, hi', hw, by rw [hag i h]⟩
    · rw [hρn]
      exact Or.inl (hnewblk k r0 hk hw)
  · intro i hi
    rw [idsV_ren] at hi
    obtain ⟨q0, hq0, rfl⟩ := List.mem_map.1 hi
    have := hvi q0 hq0
    simp only [τ, shift, List.length_append, List.length_map] at this ⊢
    by_cases h : q0 < H0.length
    · rw [if_pos h]; have := he.lt q0 h; omega
    · rw [if_neg h]; omega
end Go.Am
set_option linter.unusedVariables false
set_option linter.unusedSimpArgs false
namespace Go.Am
open Go.RowKit
abbrev vN (n : Nat) : Value := .int .i64 (n : Int)
abbrev vI (n : Int) : Value := .int .i64 n
abbrev vS (b n : Nat) : Value := .slice (some ⟨b, 0, none⟩) n 0
abbrev vP (b o : Nat) : Value := .pointer (some ⟨b, o, none⟩)
abbrev rB (cs : List Value) (e : TypeId) : Option Row := some ⟨cs, e, true, true⟩
theorem wr64 {n m : Int} (h1 : -9223372036854775808 ≤ n) (h2 : n ≤ 9223372036854775807) (h : n = m) : IntKind.i64.wrap n = m := by
  subst h
  have e : IntKind.i64.wrap n = if n % 18446744073709551616 ≥ 9223372036854775808 then n % 18446744073709551616 - 18446744073709551616 else n % 18446744073709551616 := by
    unfold IntKind.wrap
    simp [IntKind.signed, IntKind.bits]
  rw [e]
  split <;> omega
section
variable {P : Program} {C : Ctx P} {T : Tm} {H : Heap} {t u : TypeId} {x y : Operand} {k : IntKind} {a b c : Int}
theorem eAdd (hx : evalO T x = some (.int k a)) (hy : evalO T y = some (.int k b)) (h : k.wrap (a + b) = c) : evOp C T H (.binOp .add t x y u) = some (.int k c, H) := by
  simp [evOp, hx, hy, evBin, evInt, h]
theorem eSub (hx : evalO T x = some (.int k a)) (hy : evalO T y = some (.int k b)) (h : k.wrap (a - b) = c) : evOp C T H (.binOp .sub t x y u) = some (.int k c, H) := by
  simp [evOp, hx, hy, evBin, evInt, h]
theorem eMul (hx : evalO T x = some (.int k a)) (hy : evalO T y = some (.int k b)) (h : k.wrap (a * b) = c) : evOp C T H (.binOp .mul t x y u) = some (.int k c, H) := by
  simp [evOp, hx, hy, evBin, evInt, h]
theorem eIdxS {ad : Addr} {n m : Nat} {j : Nat} {e : TypeId} {s1 s2 : Nat} {z : Value} {te : TI} {o : Nat} (hx : evalO T x = some (.slice (some ad) n m)) (hi : evalO T y = some (.int k c)) (ht : tiOf P t = some ⟨.slice e, s1, s2, z⟩) (he : tiOf P e = some te)
    (hc : c = (j : Int)) (hj : j < n) (ho : ad.off + j * te.size = o) : evOp C T H (.indexAddr t x y) = some (.pointer (some ⟨ad.block, o, none⟩), H) := by
  subst hc
  simp only [evOp, hx, hi, opIdxAddr, ht, he]
  rw [if_pos (by omega)]
  simp [ho]
end
structure A3 where
  x : Int
  y : Int
  z : Int
  deriving DecidableEq, Inhabited
def A3.cs (c : A3) : List Value := [.int .i64 c.x, .int .i64 c.y, .int .i64 c.z]
def A3.v (c : A3) : Value := .agg #[.int .i64 c.x, .int .i64 c.y, .int .i64 c.z]
def a3s (l : List A3) : List Value := l.flatMap A3.cs
def nums (l : List Int) : List Value := l.map (Value.int .i64)
theorem a3s_length : ∀ l : List A3, (a3s l).length = l.length * 3
  | [] => rfl
  | c :: l => by have := a3s_length l; simp [a3s, A3.cs] at this ⊢; omega
theorem a3s_at : ∀ (l : List A3) (j : Nat), j < l.length → ((a3s l).drop (j * 3)).take 3 = (l.getD j default).cs
  | [], j, h => by simp at h
  | c :: l, 0, h => by simp [a3s, A3.cs]
  | c :: l, j + 1, h => by
    have := a3s_at l j (by simpa using h)
    have e : (j + 1) * 3 = 3 + j * 3 := by omega
    rw [e, ← List.drop_drop]
    have e2 : (a3s (c :: l)).drop 3 = a3s l := by simp [a3s, A3.cs]
    rw [e2, this]
    simp
theorem a3s_cell (l : List A3) (j : Nat) (h : j < l.length) (i : Nat) (hi : i < 3) : (a3s l)[j * 3 + i]? = (l.getD j default).cs[i]? := by
  rw [← a3s_at l j h, List.getElem?_take_of_lt hi, List.getElem?_drop]
theorem a3s_all (l : List A3) : (a3s l).all flat = true := by
  rw [List.all_eq_true]
  intro v hv
  simp only [a3s, List.mem_flatMap, A3.cs, List.mem_cons, List.not_mem_nil, or_false] at hv
  obtain ⟨c, _, rfl | rfl | rfl⟩ := hv <;> rfl
theorem flatA3 (l : List A3) (e : TypeId) (b w : Bool) : FlatRow ⟨a3s l, e, b, w⟩ := flatRow_of (a3s_all l)
section
variable {P : Program} {C : Ctx P} {T : Tm} {H : Heap} {t u : TypeId} {x y : Operand}
theorem eLdA3 {ad : Addr} {r : Row} {L : List A3} {j : Nat} {n e : Nat} {s2 : Nat} {z : Value} (hx : evalO T x = some (.pointer (some ad))) (hr : row? H ad.block = some r) (hc : r.cells = a3s L) (ho : ad.off = j * 3) (hj : j < L.length)
    (ht : tiOf P t = some ⟨.array n e, 3, s2, z⟩) : evOp C T H (.load t x) = some ((L.getD j default).v, H) := by
  simp only [evOp, hx, Option.bind_some, opLoad, hr, ht, TK.isAgg, hc, ho, if_true]
  rw [if_pos (by rw [a3s_length]; omega), a3s_at L j hj]
  rfl
theorem eLdA3i {ad : Addr} {r : Row} {L : List A3} {j i : Nat} {ti : TI} {v : Value} (hx : evalO T x = some (.pointer (some ad))) (hr : row? H ad.block = some r) (hc : r.cells = a3s L) (ho : ad.off = j * 3 + i) (hj : j < L.length)
    (ht : tiOf P t = some ti) (hk : ti.kd.isAgg = false) (hv : (L.getD j default).cs[i]? = some v) : evOp C T H (.load t x) = some (v, H) := by
  have hi : i < 3 := by have := lt_of_some hv; simpa [A3.cs] using this
  have := a3s_cell L j hj i hi
  rw [hv] at this
  simp only [evOp, hx, Option.bind_some, opLoad, hr, ht, hk, hc, ho, this]
  rfl
end
section
variable {P : Program} {fn : Func} {n : Nat} {v : Value} {T : Tm} {H H' : Heap}
theorem endQ {e : Exit} (he : e = .normal ∨ e = .ret) {l : List Value} (E : Heap) (hres : resOf P T H fn.results.toList = some l) (hv : packR l = v) (hE : H = H' ++ E) (hn : (decide (n ≤ H'.length)) = true) (hc : Closed H') (hi : ((idsV v).all fun i => decide (i < H'.length)) = true) :
    Ends P fn n v H' e T H := by
  refine ⟨he, Or.inr ⟨l, E, hres, hv, hE, by simpa using hn, Or.inr hc, fun i h => ?_⟩⟩
  simp only [List.all_eq_true, decide_eq_true_eq] at hi
  exact hi i h
def RR (H : Heap) (σ : Nat → Nat) (n i : Nat) (o : Option Row) : Prop := ∀ r, o = some r → H[σ i]? = some (some (renRow σ r)) ∧ ∀ v ∈ r.cells, ∀ k ∈ idsS v, k < n
def RRs (H : Heap) (σ : Nat → Nat) (n : Nat) : Nat → Heap → Prop
  | _, [] => True
  | i, o :: l => RR H σ n i o ∧ RRs H σ n (i + 1) l
theorem rrF {σ : Nat → Nat} {n i : Nat} {r : Row} (hf : FlatRow r) (h : H[σ i]? = some (some r)) : RR H σ n i (some r) := fun q hq => by
  simp only [Option.some.injEq] at hq
  subst hq
  exact ⟨by rw [hf.ren]; exact h, fun v hv k hk => by rw [(hf v hv).1] at hk; cases hk⟩
theorem rrX {σ : Nat → Nat} {n i : Nat} {r : Row} (h : H[σ i]? = some (some (renRow σ r))) (hb : (r.cells.all fun v => (idsS v).all fun k => decide (k < n)) = true) : RR H σ n i (some r) := fun q hq => by
  simp only [Option.some.injEq] at hq
  subst hq
  refine ⟨h, fun v hv k hk => ?_⟩
  simp only [List.all_eq_true, decide_eq_true_eq] at hb
  exact hb v hv k hk
theorem RRs.at {σ : Nat → Nat} {n : Nat} : ∀ {l : Heap} {i j : Nat} {r : Row}, RRs H σ n i l → l[j]? = some (some r) → H[σ (i + j)]? = some (some (renRow σ r)) ∧ ∀ v ∈ r.cells, ∀ k ∈ idsS v, k < n
  | [], i, j, r, _, h => by simp at h
  | o :: l, i, 0, r, h, hj => by simp at hj; exact h.1 r hj
  | o :: l, i, j + 1, r, h, hj => by
    have := RRs.at (i := i + 1) (j := j) h.2 (by simpa using hj)
    rw [show i + 1 + j = i + (j + 1) by omega] at this
    exact this
theorem renOK_rows (σ : List Nat) (hr : RRs H (fun i => σ.getD i 0) H'.length 0 H') (h2 : (σ.take n == List.range n && decide σ.Nodup && decide (n ≤ σ.length) && decide (σ.length = H'.length)) = true) : RenOK n H (fun i => σ.getD i 0) H' := by
  simp only [Bool.and_eq_true, beq_iff_eq, decide_eq_true_eq] at h2
  obtain ⟨⟨⟨h2a, h2b⟩, h2c⟩, hlen⟩ := h2
  refine ⟨fun i hi => ?_, by omega, fun i r hi => ?_, fun i j r s hi hj hij => ?_, fun i r hi => ?_⟩
  · have : (σ.take n)[i]? = some i := by rw [h2a, List.getElem?_range hi]
    rw [List.getElem?_take_of_lt hi] at this
    simp [List.getD_eq_getElem?_getD, this]
  · have := (hr.at hi).1
    rwa [Nat.zero_add] at this
  · have h1 : i < σ.length := by rw [hlen]; exact lt_of_some hi
    have h2 : j < σ.length := by rw [hlen]; exact lt_of_some hj
    simp only [List.getD_eq_getElem?_getD, List.getElem?_eq_getElem h1, List.getElem?_eq_getElem h2, Option.getD_some] at hij
    exact (List.getElem_inj h2b).1 hij
  · exact (hr.at hi).2
def CLs (n : Nat) : Heap → Prop
  | [] => True
  | o :: l => (∀ r, o = some r → ∀ v ∈ r.cells, ∀ k ∈ idsS v, k < n) ∧ CLs n l
theorem clF {n : Nat} {r : Row} (hf : FlatRow r) : ∀ q, some r = some q → ∀ v ∈ q.cells, ∀ k ∈ idsS v, k < n := fun q hq v hv k hk => by
  simp only [Option.some.injEq] at hq
  subst hq
  rw [(hf v hv).1] at hk; cases hk
theorem clX {n : Nat} {r : Row} (hb : (r.cells.all fun v => (idsS v).all fun k => decide (k < n)) = true) : ∀ q, some r = some q → ∀ v ∈ q.cells, ∀ k ∈ idsS v, k < n := fun q hq v hv k hk => by
  simp only [Option.some.injEq] at hq
  subst hq
  simp only [List.all_eq_true, decide_eq_true_eq] at hb
  exact hb v hv k hk
theorem CLs.at {n : Nat} : ∀ {l : Heap} {j : Nat} {r : Row}, CLs n l → l[j]? = some (some r) → ∀ v ∈ r.cells, ∀ k ∈ idsS v, k < n
  | [], j, r, _, h => by simp at h
  | o :: l, 0, r, h, hj => by simp at hj; exact h.1 r hj
  | o :: l, j + 1, r, h, hj => CLs.at h.2 (by simpa using hj)
theorem closedL (h : CLs H'.length H') : Closed H' := fun i r hi => h.at hi
theorem endF {e : Exit} (he : e = .normal ∨ e = .ret) {l : List Value} (σ : List Nat) (hres : resOf P T H fn.results.toList = some l) (hv : packR l = mpV (renId fun i => σ.getD i 0) v) (h1 : RRs H (fun i => σ.getD i 0) H'.length 0 H')
    (h2 : (σ.take n == List.range n && decide σ.Nodup && decide (n ≤ σ.length) && decide (σ.length = H'.length)) = true)
    (hi : ((idsV v).all fun i => decide (i < H'.length)) = true) : Ends P fn n v H' e T H := by
  refine ⟨he, Or.inl ⟨l, _, hres, hv, renOK_rows σ h1 h2, fun i h => ?_⟩⟩
  simp only [List.all_eq_true, decide_eq_true_eq] at hi
  exact hi i h
end
def fixA : Value → Bool
  | .agg cs => cs.toList.all flat
  | v => flat v
def fixV : Value → Bool
  | .tuple vs => vs.toList.all fixA
  | v => fixA v
theorem fix_flatA {v : Value} (h : flat v = true) : idsA v = [] ∧ ∀ m : Mp, mpA m v = v :=
  ⟨by rw [idsA_scal (scal_flat h), idsS_flat h], fun m => by rw [mapA_scal (scal_flat h), mpS_flat h]⟩
theorem fixA_spec {v : Value} (h : fixA v = true) : idsA v = [] ∧ ∀ m : Mp, mpA m v = v := by
  cases v with
  | agg cs =>
    simp only [fixA, List.all_eq_true] at h
    refine ⟨?_, fun m => ?_⟩
    · simp only [idsA, List.flatMap_eq_nil_iff]
      exact fun c hc => idsS_flat (h c hc)
    · simp only [mpA]
      congr 1
      conv => rhs; rw [← Array.map_id cs]
      exact Array.map_congr_left fun c hc => mpS_flat (h c (by simpa using hc))
  | _ => exact fix_flatA h
theorem fixV_spec {v : Value} (h : fixV v = true) : idsV v = [] ∧ ∀ m : Mp, mpV m v = v := by
  cases v with
  | tuple vs =>
    simp only [fixV, List.all_eq_true] at h
    refine ⟨?_, fun m => ?_⟩
    · simp only [idsV, List.flatMap_eq_nil_iff]
      exact fun c hc => (fixA_spec (h c hc)).1
    · simp only [mpV]
      congr 1
      conv => rhs; rw [← Array.map_id vs]
      exact Array.map_congr_left fun c hc => (fixA_spec (h c (by simpa using hc))).2 m
  | agg cs => exact fixA_spec (v := .agg cs) h
  | _ => exact ⟨idsV_flat h, fun m => mpV_flat h⟩
theorem emb_nil (H : Heap) (σ : Nat → Nat) : Emb [] H σ := ⟨fun i h => by simp at h, fun i r h => by simp at h, fun i j r s h => by simp at h⟩
theorem Sound.flat {P : Program} {f : FuncId} {args : List Value} {v : Value} (hS : Sound P f args [] v []) (ha : (args.all fixV) = true) (hv : fixV v = true) (H : Heap) : Sound P f args H v H := by
  have ha' := List.all_eq_true.1 ha
  have h := Sound.emb (args := args) (v := v) (E := []) (H := H) (E0 := []) id hS (emb_nil H id) (fun i r h => by simp at h) (fun r h => by simp at h)
    (fun x hx i hi => by rw [(fixV_spec (ha' x hx)).1] at hi; cases hi)
    (by conv => lhs; rw [← List.map_id args]
        exact List.map_congr_left fun x hx => ((fixV_spec (ha' x hx)).2 _).symm)
    ((fixV_spec hv).2 _).symm (by simp)
  simpa using h
theorem Quiet.flat {P : Program} {f : FuncId} {args : List Value} {v : Value} {H : Heap} (hS : Sound P f args [] v []) (ha : (args.all fixV) = true) (hv : fixV v = true) : Quiet P f args H v := fun H0 _ _ _ _ => hS.flat ha hv H0
theorem Sound.fresh {P : Program} {f : FuncId} {args : List Value} {v0 v : Value} {E : Heap} (hS : Sound P f args [] v0 E) (ha : (args.all fixV) = true) (hE : FlatH E) (hw : ∀ r, some r ∈ E → r.wr = true ∨ r.cells = []) (H : Heap)
    (hv : v = mpV (renId fun i => H.length + i) v0) : Sound P f args H v (H ++ E) := by
  have ha' := List.all_eq_true.1 ha
  have hsh : shift ([] : Heap).length H.length id = fun i => H.length + i := by funext i; simp [shift]
  refine Sound.emb (args0 := args) (v0 := v0) (E0 := E) (H0 := []) id (by simpa using hS) (emb_nil H id) (fun i r h => by simp at h) hw
    (fun x hx i hi => by rw [(fixV_spec (ha' x hx)).1] at hi; cases hi)
    (by conv => lhs; rw [← List.map_id args]
        exact List.map_congr_left fun x hx => ((fixV_spec (ha' x hx)).2 _).symm)
    (by rw [hsh]; exact hv) ?_
  conv => lhs; rw [← List.map_id E]
  refine List.map_congr_left fun o ho => ?_
  cases o with
  | none => rfl
  | some r => simp [(hE r ho).ren]
theorem Sound.reads {P : Program} {f : FuncId} {args0 args : List Value} {v0 v : Value} {H0 H : Heap} (σ : List Nat) (hS : Sound P f args0 H0 v0 H0) (hf : FlatH H0) (hlen : σ.length = H0.length)
    (hrow : ∀ (i : Nat) (r : Row), H0[i]? = some (some r) → r.wr = false ∧ ∃ b, H[σ.getD i 0]? = some (some { r with wr := b })) (hlt : (σ.all fun s => decide (s < H.length)) = true)
    (hi : (args0.all fun x => (idsV x).all fun i => decide (i < H0.length)) = true) (ha : args = args0.map (mpV (renId fun i => σ.getD i 0))) (hv0 : fixV v0 = true) (hv : v = v0) : Sound P f args H v H := by
  subst hv
  simp only [List.all_eq_true, decide_eq_true_eq] at hi hlt
  have h := Sound.emb (args := args) (v := v) (E := []) (H := H) (E0 := []) (fun i => σ.getD i 0) (by simpa using hS)
    ⟨fun i h => hlt _ (by rw [List.getD_eq_getElem?_getD, List.getElem?_eq_getElem (by omega)]; simp), fun i r h => by
      obtain ⟨h1, b, h2⟩ := hrow i r h
      exact ⟨b, (fun hw : r.wr = true => by rw [h1] at hw; cases hw), by rw [h2, (hf r (List.mem_of_getElem? h)).ren]⟩, fun i j r s hri _ hw => by rw [(hrow i r hri).1] at hw; cases hw⟩ hf.closed (fun r h => by simp at h)
    (fun x hx i hh => hi x hx i hh) ha ((fixV_spec hv0).2 _).symm (by simp)
  simpa using h
end Go.Am
set_option linter.unusedVariables false
set_option linter.unusedSimpArgs false
namespace Go.Am
open Go.RowKit
section
variable {P : Program}
theorem SubT.refl (T : Tm) : SubT T T := ⟨rfl, fun _ _ h => h⟩
end
end Go.Am
set_option linter.unusedVariables false
set_option linter.unusedSimpArgs false
namespace Go.Am
open Go.RowKit
theorem rep_nil {P : Program} {ρ : Ren} {w : World} : Rep P ρ [] w :=
  ⟨fun i r h => by simp at h, fun i j r s h => by simp at h, fun i r h => by simp at h⟩
theorem Sound.top {P : Program} {f : FuncId} {args : List Value} {H H' : Heap} {v : Value} (hS : Sound P f args H v H') (hro : ∀ (i : Nat) (r : Row), H[i]? = some (some r) → r.wr = false) {ρ : Ren} {W : World} (hr : Rep P ρ H W)
    (ha : ∀ x ∈ args, ∀ i ∈ idsV x, i < H.length) (hv : fixV v = true) : Calls P f (args.map (mapV ρ)).toArray W fun e W' => e = .returned v ∧ Below W.heap.size W W' :=
  (hS.run ρ W hr ha).mono fun e W' h => by
    obtain ⟨ρ', rfl, ad, _⟩ := h
    refine ⟨by rw [mapV, (fixV_spec hv).2], ad.os, ad.tape, ad.output, ad.size, fun k hk => ad.frame k hk fun i r hi hw => ?_⟩
    rw [hro i r hi] at hw
    cases hw
theorem Sound.top0 {P : Program} {f : FuncId} {args : List Value} {H' : Heap} {v : Value} (hS : Sound P f args [] v H') (ha : (args.all fixV) = true) (hv : fixV v = true) (W : World) :
    Calls P f args.toArray W fun e W' => e = .returned v ∧ Below W.heap.size W W' := by
  have ha' := List.all_eq_true.1 ha
  have h := hS.top (ρ := fun _ => ⟨0, 0, 0⟩) (W := W) (fun i r h => by simp at h) rep_nil (fun x hx i hi => by rw [(fixV_spec (ha' x hx)).1] at hi; cases hi) hv
  have e : args.map (mapV fun _ => ⟨0, 0, 0⟩) = args := by
    conv => rhs; rw [← List.map_id args]
    exact List.map_congr_left fun x hx => (fixV_spec (ha' x hx)).2 _
  rwa [e] at h
end Go.Am
set_option linter.unusedVariables false
set_option linter.unusedSimpArgs false
namespace Go.Am
open Go.RowKit
def fieldsB (P : Program) (rec : TypeId → Option Nat) : List Field → Nat → Option (List Nat)
  | [], _ => some []
  | f :: r, off => match rec f.type, (P.info? f.type).map (·.size), fieldsB P rec r (off + ((rec f.type).getD 0)) with
    | some m, some m', some l => if m = m' ∧ (f.name == "_") = false ∧ f.offset = off then some (m :: l) else none
    | _, _, _ => none
def flatB (P : Program) : Nat → TypeId → Option Nat
  | 0, _ => none
  | d + 1, t => match P.underlying t with
    | some (.int _) => some 1
    | some (.array n e) => match flatB P d e, (P.info? e).map (·.size) with
      | some m, some m' => if m = m' then some (n * m) else none
      | _, _ => none
    | some (.struct fs) => if P.stoodInHeld t = false then (fieldsB P (flatB P d) fs.toList 0).map List.sum else none
    | _ => none
theorem fieldsB_spec {P : Program} {rec : TypeId → Option Nat} : ∀ {fs : List Field} {off : Nat} {ms : List Nat}, fieldsB P rec fs off = some ms → ms.length = fs.length ∧
    ∀ (i : Nat) (f : Field) (m : Nat), fs[i]? = some f → ms[i]? = some m → (f.name == "_") = false ∧ f.offset = off + (ms.take i).sum ∧ (P.info? f.type).map (·.size) = some m ∧ rec f.type = some m
  | [], off, ms, h => by simp [fieldsB] at h; subst h; simp
  | f :: r, off, ms, h => by
    simp only [fieldsB] at h
    split at h
    · rename_i m m' l h1 h2 h3
      split at h
      · rename_i hc
        simp only [Option.some.injEq] at h
        subst h
        rw [h1] at h3
        obtain ⟨hl, hs⟩ := fieldsB_spec h3
        refine ⟨by simp [hl], fun i g k hi hk => ?_⟩
        cases i with
        | zero =>
          simp only [List.getElem?_cons_zero, Option.some.injEq] at hi hk
          subst hi hk
          exact ⟨hc.2.1, by simp [hc.2.2], by rw [h2, hc.1], h1⟩
        | succ i =>
          simp only [List.getElem?_cons_succ] at hi hk
          obtain ⟨a, b, c, d⟩ := hs i g k hi hk
          refine ⟨a, ?_, c, d⟩
          rw [b]
          simp
          omega
      · cases h
    · cases h
theorem flatB_spec {P : Program} : ∀ {d : Nat} {t : TypeId} {n : Nat}, flatB P d t = some n → FlatTy P d t n
  | 0, t, n, h => by cases h
  | d + 1, t, n, h => by
    simp only [flatB] at h
    split at h
    · rename_i k hu
      simp only [Option.some.injEq] at h
      subst h
      exact .int hu
    · rename_i m e hu
      split at h
      · rename_i a b h1 h2
        split at h
        · rename_i hab
          simp only [Option.some.injEq] at h
          subst h hab
          exact .array hu (flatB_spec h1) h2
        · cases h
      · cases h
    · rename_i fs hu
      split at h
      · rename_i hs
        cases hf : fieldsB P (flatB P d) fs.toList 0 with
        | none => rw [hf] at h; cases h
        | some ms =>
          rw [hf] at h
          simp only [Option.map_some, Option.some.injEq] at h
          obtain ⟨hl, hsp⟩ := fieldsB_spec hf
          refine .struct hu hs (by simpa using hl) (fun i f m hi hm => ?_) (fun i f m hi hm => ?_) h.symm
          · obtain ⟨a, b, c, _⟩ := hsp i f m (by simpa using hi) hm
            exact ⟨a, by simpa using b, c⟩
          · obtain ⟨_, _, _, e⟩ := hsp i f m (by simpa using hi) hm
            exact flatB_spec e
      · cases h
    · cases h
def stdFlat (P : Program) (t : TypeId) : Option Nat :=
  match P.underlying t with
  | some (.int _) => none
  | _ => if P.eqGuardType P.depth t = false then flatB P 9 t else none
theorem stdFlat_ok (P : Program) (t : TypeId) (n : Nat) (h : stdFlat P t = some n) : FlatTy P 9 t n ∧ P.eqGuardType P.depth t = false ∧ ∀ k, P.underlying t ≠ some (.int k) := by
  unfold stdFlat at h
  split at h
  · cases h
  · rename_i hne
    split at h
    · rename_i hg
      exact ⟨flatB_spec h, hg, fun k hk => hne k hk⟩
    · cases h
def Ctx.std (P : Program) (cc : FuncId → Cls) (mixed : P.follows .mixedOrders = true) : Ctx P := ⟨stdFlat P, stdFlat_ok P, cc, mixed⟩
end Go.Am
set_option linter.unusedVariables false
set_option linter.unusedSimpArgs false
namespace Go.Am
open Go.RowKit
def A3.put (c : A3) (k : Nat) (n : Int) : A3 := match k with
  | 0 => { c with x := n }
  | 1 => { c with y := n }
  | _ => { c with z := n }
theorem splice_cons {a : Value} {l x : List Value} {o : Nat} : splice (a :: l) (o + 1) x = a :: splice l o x := by
  unfold splice
  simp [Nat.add_right_comm o 1 x.length]
section
variable {P : Program} {C : Ctx P} {T : Tm} {H : Heap} {t u : TypeId} {x y : Operand}
end
end Go.Am
set_option linter.unusedVariables false
set_option linter.unusedSimpArgs false
namespace Go.Am
def inR (n lo hi : Int) : Bool := decide (lo ≤ n) && decide (n ≤ hi)
def valid3 (x y z : Int) : Bool := inR x 1 4 && inR y 1 4 && inR z 1 4
def has3 (x y z a b c : Int) : Bool := inR a 0 (x - 1) && inR b 0 (y - 1) && inR c 0 (z - 1)
def cellOf (Y Z i : Nat) : A3 := ⟨((i / Z / Y : Nat) : Int), ((i / Z % Y : Nat) : Int), ((i % Z : Nat) : Int)⟩
def upto (Y Z s n : Nat) : List A3 := ((List.range n).filter fun i => s.testBit i).map (cellOf Y Z)
def listOf (X Y Z s : Nat) : List A3 := upto Y Z s (X * Y * Z)
theorem size_le {X Y Z : Nat} (hX : X ≤ 4) (hY : Y ≤ 4) (hZ : Z ≤ 4) : X * Y ≤ 16 ∧ X * Y * Z ≤ 64 := by
  have h1 : X * Y ≤ 4 * 4 := Nat.mul_le_mul hX hY
  exact ⟨h1, Nat.mul_le_mul h1 hZ⟩
def mk3 (m n : Nat) : List A3 := (List.range n).map fun j => ⟨((m + 3 * j : Nat) : Int), ((m + 3 * j + 1 : Nat) : Int), ((m + 3 * j + 2 : Nat) : Int)⟩
theorem mk3_length (m n : Nat) : (mk3 m n).length = n := by simp [mk3]
end Go.Am
namespace Go.Am
end Go.Am
namespace Go.Am
def allOf (X Y Z : Nat) : List A3 := (List.range (X * Y * Z)).map (cellOf Y Z)
theorem allOf_length (X Y Z : Nat) : (allOf X Y Z).length = X * Y * Z := by simp [allOf]
theorem cellOf_at {Y Z x y z : Nat} (hy : y < Y) (hz : z < Z) : cellOf Y Z ((x * Y + y) * Z + z) = ⟨(x : Int), (y : Int), (z : Int)⟩ := by
  have h1 : ((x * Y + y) * Z + z) / Z = x * Y + y := by
    rw [Nat.mul_comm, Nat.mul_add_div (by omega), Nat.div_eq_of_lt hz, Nat.add_zero]
  have h2 : ((x * Y + y) * Z + z) % Z = z := by
    rw [Nat.mul_comm, Nat.mul_add_mod, Nat.mod_eq_of_lt hz]
  have h3 : (x * Y + y) / Y = x := by
    rw [Nat.mul_comm, Nat.mul_add_div (by omega), Nat.div_eq_of_lt hy, Nat.add_zero]
  have h4 : (x * Y + y) % Y = y := by
    rw [Nat.mul_comm, Nat.mul_add_mod, Nat.mod_eq_of_lt hy]
  unfold cellOf
  rw [h1, h2, h3, h4]
section
open Go.RowKit
variable {P : Program} {C : Ctx P} {T : Tm} {H : Heap} {t u : TypeId} {x y : Operand} {k : IntKind} {a : Int}
theorem eNeS (hx : evalO T x = some (.int k a)) (hy : evalO T y = some (.int k a)) : evOp C T H (.binOp .neq t x y u) = some (.bool false, H) := by
  simp [evOp, hx, hy, evBin, evInt]
theorem Sound.reads1 {f : FuncId} {args0 args : List Value} {v : Value} {r : Row} (s : Nat) (b : Bool) (hS : Sound P f args0 [some r] v [some r]) (hf : FlatRow r) (hw : r.wr = false) (hs : H[s]? = some (some { r with wr := b }))
    (hi : (args0.all fun x => (idsV x).all fun i => decide (i < 1)) = true) (ha : args = args0.map (mpV (renId fun i => [s].getD i 0))) (hv : fixV v = true) : Sound P f args H v H := by
  refine Sound.reads [s] hS (FlatH.nil.cons hf) rfl (fun i q hq => ?_) (by simpa using lt_of_some hs) hi ha hv rfl
  cases i with
  | zero => simp at hq; subst hq; exact ⟨hw, b, hs⟩
  | succ i => simp at hq
theorem Sound.reads2 {f : FuncId} {args0 args : List Value} {v : Value} {r r2 : Row} (s s2 : Nat) (b b2 : Bool) (hS : Sound P f args0 [some r, some r2] v [some r, some r2]) (hf : FlatRow r) (hf2 : FlatRow r2) (hw : r.wr = false) (hw2 : r2.wr = false)
    (hs : H[s]? = some (some { r with wr := b })) (hs2 : H[s2]? = some (some { r2 with wr := b2 }))
    (hi : (args0.all fun x => (idsV x).all fun i => decide (i < 2)) = true) (ha : args = args0.map (mpV (renId fun i => [s, s2].getD i 0))) (hv : fixV v = true) : Sound P f args H v H := by
  refine Sound.reads [s, s2] hS ((FlatH.nil.cons hf2).cons hf) rfl (fun i q hq => ?_) (by have h1 := lt_of_some hs; have h2 := lt_of_some hs2; simp [h1, h2]) hi ha hv rfl
  match i, hq with
  | 0, hq => simp at hq; subst hq; exact ⟨hw, b, hs⟩
  | 1, hq => simp at hq; subst hq; exact ⟨hw2, b2, hs2⟩
  | i + 2, hq => simp at hq
theorem arg_lt {args0 args : List Value} {σ : Nat → Nat} {n k : Nat} (ha : args = args0.map (mpV (renId σ))) (h0 : (args0.any fun x => (idsV x).contains k) = true) (h : ∀ x ∈ args, ∀ i ∈ idsV x, i < n) : σ k < n := by
  rw [List.any_eq_true] at h0
  obtain ⟨x, hx, hk⟩ := h0
  refine h (mpV (renId σ) x) (by rw [ha]; exact List.mem_map_of_mem hx) _ ?_
  rw [idsV_ren]
  exact List.mem_map_of_mem (by simpa using hk)
theorem Quiet.reads1 {f : FuncId} {args0 args : List Value} {v : Value} {r : Row} (s : Nat) (b : Bool) (hS : Sound P f args0 [some r] v [some r]) (hf : FlatRow r) (hw : r.wr = false) (hs : H[s]? = some (some { r with wr := b }))
    (hi : (args0.all fun x => (idsV x).all fun i => decide (i < 1)) = true) (ha : args = args0.map (mpV (renId fun i => [s].getD i 0))) (hv : fixV v = true) (h0 : (args0.any fun x => (idsV x).contains 0) = true) : Quiet P f args H v := fun H0 E hE hcl hids => by
  have hlt : s < H0.length := arg_lt ha h0 hids
  exact Sound.reads1 s b hS hf hw (by rw [hE, List.getElem?_append_left hlt] at hs; exact hs) hi ha hv
theorem Quiet.reads2 {f : FuncId} {args0 args : List Value} {v : Value} {r r2 : Row} (s s2 : Nat) (b b2 : Bool) (hS : Sound P f args0 [some r, some r2] v [some r, some r2]) (hf : FlatRow r) (hf2 : FlatRow r2) (hw : r.wr = false) (hw2 : r2.wr = false)
    (hs : H[s]? = some (some { r with wr := b })) (hs2 : H[s2]? = some (some { r2 with wr := b2 }))
    (hi : (args0.all fun x => (idsV x).all fun i => decide (i < 2)) = true) (ha : args = args0.map (mpV (renId fun i => [s, s2].getD i 0))) (hv : fixV v = true) (h0 : (args0.any fun x => (idsV x).contains 0) = true) (h1 : (args0.any fun x => (idsV x).contains 1) = true) : Quiet P f args H v := fun H0 E hE hcl hids => by
  have hlt : s < H0.length := arg_lt ha h0 hids
  have hlt2 : s2 < H0.length := arg_lt ha h1 hids
  exact Sound.reads2 s s2 b b2 hS hf hf2 hw hw2 (by rw [hE, List.getElem?_append_left hlt] at hs; exact hs) (by rw [hE, List.getElem?_append_left hlt2] at hs2; exact hs2) hi ha hv
theorem Sound.reads1F {f : FuncId} {args0 args : List Value} {v0 v : Value} {r r2 : Row} (s : Nat) (b : Bool) (hS : Sound P f args0 [some r] v0 [some r, some r2]) (hf : FlatRow r) (hf2 : FlatRow r2) (hw : r.wr = false) (hw2 : r2.wr = true) (hs : H[s]? = some (some { r with wr := b }))
    (hi : (args0.all fun x => (idsV x).all fun i => decide (i < 1)) = true) (ha : args = args0.map (mpV (renId fun _ => s))) (hv : v = mpV (renId (shift 1 H.length fun _ => s)) v0) : Sound P f args H v (H ++ [some r2]) := by
  simp only [List.all_eq_true, decide_eq_true_eq] at hi
  have hlt := lt_of_some hs
  refine Sound.emb (args0 := args0) (v0 := v0) (E0 := [some r2]) (H0 := [some r]) (fun _ => s) (by simpa using hS) ⟨fun i h => hlt, fun i q hq => ?_, fun i j q t hq ht hqw hij => ?_⟩ (FlatH.nil.cons hf).closed
    (fun q hq => by simp at hq; subst hq; exact Or.inl hw2) (fun x hx i hh => hi x hx i hh) ha hv (by simp [hf2.ren])
  · cases i with
    | zero => simp at hq; subst hq; exact ⟨b, (fun h => by rw [hw] at h; cases h), by rw [hs, hf.ren]⟩
    | succ i => simp at hq
  · have := lt_of_some hq; have := lt_of_some ht; simp at *; omega
end
end Go.Am
namespace Go.Am
theorem valid_nat {X Y Z : Nat} (hX0 : 1 ≤ X) (hX : X ≤ 4) (hY0 : 1 ≤ Y) (hY : Y ≤ 4) (hZ0 : 1 ≤ Z) (hZ : Z ≤ 4) : valid3 (X : Int) (Y : Int) (Z : Int) = true := by
  simp only [valid3, inR, Bool.and_eq_true, decide_eq_true_eq]
  omega
theorem nat_valid {x y z : Int} (h : valid3 x y z = true) : ∃ X Y Z : Nat, x = (X : Int) ∧ y = (Y : Int) ∧ z = (Z : Int) ∧ 1 ≤ X ∧ X ≤ 4 ∧ 1 ≤ Y ∧ Y ≤ 4 ∧ 1 ≤ Z ∧ Z ≤ 4 := by
  simp only [valid3, inR, Bool.and_eq_true, decide_eq_true_eq] at h
  exact ⟨x.toNat, y.toNat, z.toNat, by omega, by omega, by omega, by omega, by omega, by omega, by omega, by omega, by omega⟩
end Go.Am
set_option linter.unusedVariables false
set_option linter.unusedSimpArgs false
namespace Go.Proofs.Yteohlhpdbnhbaaa.F
open Go.Am Go.RowKit
theorem mixedT : Try.prog.follows .mixedOrders = true := by kernel_rfl
def cls (f : FuncId) : Cls := match f with
  | 16 => .N
  | 7 => .N
  | _ => .Q
noncomputable def cx : Ctx Try.prog := Ctx.std Try.prog cls mixedT
theorem ti3 : tiOf Try.prog 3 = some ⟨.int .i64, 1, 8, vI 0⟩ := by kernel_rfl
theorem ti22 : tiOf Try.prog 22 = some ⟨.slice 46, 1, 24, .slice none 0 0⟩ := by kernel_rfl
theorem ti46 : tiOf Try.prog 46 = some ⟨.array 3 3, 3, 24, .agg #[vI 0, vI 0, vI 0]⟩ := by kernel_rfl
end Go.Proofs.Yteohlhpdbnhbaaa.F
set_option linter.unusedVariables false
set_option linter.unusedSimpArgs false
namespace Go.Proofs.Yteohlhpdbnhbaaa.F
open Go.Am Go.RowKit
set_option maxRecDepth 100000 in
set_option maxHeartbeats 4000000 in
theorem within_ok (n lo hi : Int) : Sound Try.prog 33 [vI n, vI lo, vI hi] [] (.bool (inR n lo hi)) [] := by
  refine sound_intro (C := cx) Try.func33 rfl (by kernel_rfl) fun hcl => ?_
  refine cSeq ?_
  refine cReg ?_
  refine segEnd [0, 1, 2, 6] (T1 := (mkT 15 [(0, vI n), (1, vI lo), (2, vI hi), (6, .bool false)])) (H1 := []) (by kernel_rfl) ?_
  refine kSeq ?_
  refine cSeq ?_
  refine cReg ?_
  refine seg 4 (T1 := (mkT 15 [(0, vI n), (1, vI lo), (2, vI hi), (6, .bool false), (7, vI n), (8, vI lo), (9, .bool (decide (n ≥ lo))), (10, .bool (decide (n ≥ lo)))])) (H1 := []) (by kernel_rfl) ?_
  cases h1 : (decide (n ≥ lo) : Bool)
  ·
    (try simp only [Bool.not_eq_true', Bool.not_eq_false', decide_eq_true_eq, decide_eq_false_iff_not, beq_iff_eq, bne_iff_ne, beq_eq_false_iff_ne, bne_eq_false_iff_eq, ne_eq, Decidable.not_not, Bool.and_eq_true, Bool.and_eq_false_imp, Bool.or_eq_true, Bool.or_eq_false_iff, Bool.not_eq_true, Int.not_lt, Int.not_le, ge_iff_le, gt_iff_lt] at h1)
    refine segEnd [0, 1, 2, 6] (T1 := (mkT 15 [(0, vI n), (1, vI lo), (2, vI hi), (6, .bool false)])) (H1 := []) (by kernel_rfl) ?_
    refine kSeq ?_
    refine cRet ?_
    exact endQ (Or.inr rfl) (l := [.bool false]) [] (by kernel_rfl) (congrArg Value.bool (Bool.eq_iff_iff.2 (by simp only [inR, valid3, has3, Bool.not_eq_true', Bool.not_eq_false', decide_eq_true_eq, decide_eq_false_iff_not, beq_iff_eq, bne_iff_ne, beq_eq_false_iff_ne, bne_eq_false_iff_eq, ne_eq, Decidable.not_not, Bool.and_eq_true, Bool.and_eq_false_imp, Bool.or_eq_true, Bool.or_eq_false_iff, Bool.not_eq_true, Int.not_lt, Int.not_le, ge_iff_le, gt_iff_lt, Bool.false_eq_true, true_iff, false_iff, iff_self]; try omega))) rfl rfl hcl rfl
  ·
    (try simp only [Bool.not_eq_true', Bool.not_eq_false', decide_eq_true_eq, decide_eq_false_iff_not, beq_iff_eq, bne_iff_ne, beq_eq_false_iff_ne, bne_eq_false_iff_eq, ne_eq, Decidable.not_not, Bool.and_eq_true, Bool.and_eq_false_imp, Bool.or_eq_true, Bool.or_eq_false_iff, Bool.not_eq_true, Int.not_lt, Int.not_le, ge_iff_le, gt_iff_lt] at h1)
    refine segEnd [0, 1, 2, 6] (T1 := (mkT 15 [(0, vI n), (1, vI lo), (2, vI hi), (6, .bool (decide (n ≤ hi)))])) (H1 := []) (by kernel_rfl) ?_
    refine kSeq ?_
    refine cRet ?_
    exact endQ (Or.inr rfl) (l := [.bool (decide (n ≤ hi))]) [] (by kernel_rfl) (congrArg Value.bool (Bool.eq_iff_iff.2 (by simp only [inR, valid3, has3, Bool.not_eq_true', Bool.not_eq_false', decide_eq_true_eq, decide_eq_false_iff_not, beq_iff_eq, bne_iff_ne, beq_eq_false_iff_ne, bne_eq_false_iff_eq, ne_eq, Decidable.not_not, Bool.and_eq_true, Bool.and_eq_false_imp, Bool.or_eq_true, Bool.or_eq_false_iff, Bool.not_eq_true, Int.not_lt, Int.not_le, ge_iff_le, gt_iff_lt, Bool.false_eq_true, true_iff, false_iff, iff_self]; try omega))) rfl rfl hcl rfl
set_option maxRecDepth 100000 in
set_option maxHeartbeats 4000000 in
theorem l1In_ok (n lo hi : Int) : Sound Try.prog 32 [vI n, vI lo, vI hi] [] (.bool (inR n lo hi)) [] := by
  refine sound_intro (C := cx) Try.func32 rfl (by kernel_rfl) fun hcl => ?_
  refine cSeq ?_
  refine cReg ?_
  refine segEnd [0, 1, 2, 6] (T1 := (mkT 15 [(0, vI n), (1, vI lo), (2, vI hi), (6, .bool false)])) (H1 := []) (by kernel_rfl) ?_
  refine kSeq ?_
  refine cSeq ?_
  refine cReg ?_
  refine seg 4 (T1 := (mkT 15 [(0, vI n), (1, vI lo), (2, vI hi), (6, .bool false), (7, vI n), (8, vI lo), (9, .bool (decide (n ≥ lo))), (10, .bool (decide (n ≥ lo)))])) (H1 := []) (by kernel_rfl) ?_
  cases h1 : (decide (n ≥ lo) : Bool)
  ·
    (try simp only [Bool.not_eq_true', Bool.not_eq_false', decide_eq_true_eq, decide_eq_false_iff_not, beq_iff_eq, bne_iff_ne, beq_eq_false_iff_ne, bne_eq_false_iff_eq, ne_eq, Decidable.not_not, Bool.and_eq_true, Bool.and_eq_false_imp, Bool.or_eq_true, Bool.or_eq_false_iff, Bool.not_eq_true, Int.not_lt, Int.not_le, ge_iff_le, gt_iff_lt] at h1)
    refine segEnd [0, 1, 2, 6] (T1 := (mkT 15 [(0, vI n), (1, vI lo), (2, vI hi), (6, .bool false)])) (H1 := []) (by kernel_rfl) ?_
    refine kSeq ?_
    refine cRet ?_
    exact endQ (Or.inr rfl) (l := [.bool false]) [] (by kernel_rfl) (congrArg Value.bool (Bool.eq_iff_iff.2 (by simp only [inR, valid3, has3, Bool.not_eq_true', Bool.not_eq_false', decide_eq_true_eq, decide_eq_false_iff_not, beq_iff_eq, bne_iff_ne, beq_eq_false_iff_ne, bne_eq_false_iff_eq, ne_eq, Decidable.not_not, Bool.and_eq_true, Bool.and_eq_false_imp, Bool.or_eq_true, Bool.or_eq_false_iff, Bool.not_eq_true, Int.not_lt, Int.not_le, ge_iff_le, gt_iff_lt, Bool.false_eq_true, true_iff, false_iff, iff_self]; try omega))) rfl rfl hcl rfl
  ·
    (try simp only [Bool.not_eq_true', Bool.not_eq_false', decide_eq_true_eq, decide_eq_false_iff_not, beq_iff_eq, bne_iff_ne, beq_eq_false_iff_ne, bne_eq_false_iff_eq, ne_eq, Decidable.not_not, Bool.and_eq_true, Bool.and_eq_false_imp, Bool.or_eq_true, Bool.or_eq_false_iff, Bool.not_eq_true, Int.not_lt, Int.not_le, ge_iff_le, gt_iff_lt] at h1)
    refine segEnd [0, 1, 2, 6] (T1 := (mkT 15 [(0, vI n), (1, vI lo), (2, vI hi), (6, .bool (decide (n ≤ hi)))])) (H1 := []) (by kernel_rfl) ?_
    refine kSeq ?_
    refine cRet ?_
    exact endQ (Or.inr rfl) (l := [.bool (decide (n ≤ hi))]) [] (by kernel_rfl) (congrArg Value.bool (Bool.eq_iff_iff.2 (by simp only [inR, valid3, has3, Bool.not_eq_true', Bool.not_eq_false', decide_eq_true_eq, decide_eq_false_iff_not, beq_iff_eq, bne_iff_ne, beq_eq_false_iff_ne, bne_eq_false_iff_eq, ne_eq, Decidable.not_not, Bool.and_eq_true, Bool.and_eq_false_imp, Bool.or_eq_true, Bool.or_eq_false_iff, Bool.not_eq_true, Int.not_lt, Int.not_le, ge_iff_le, gt_iff_lt, Bool.false_eq_true, true_iff, false_iff, iff_self]; try omega))) rfl rfl hcl rfl
set_option maxRecDepth 100000 in
set_option maxHeartbeats 4000000 in
theorem valid_ok (bx by_ bz : Int) : Sound Try.prog 28 [.agg #[vI bx, vI by_, vI bz]] [] (.bool (valid3 bx by_ bz)) [] := by
  refine sound_intro (C := cx) Try.func28 rfl (by kernel_rfl) fun hcl => ?_
  refine cSeq ?_
  refine cReg ?_
  refine segEnd [0, 1, 2] (T1 := (mkT 16 [(0, .agg #[vI bx, vI by_, vI bz]), (1, vP 0 0), (2, .bool false)])) (H1 := [rB [vI bx, vI by_, vI bz] 49]) (by kernel_rfl) ?_
  refine kSeq ?_
  refine cSeq ?_
  refine cReg ?_
  refine seg 2 (T1 := (mkT 16 [(0, .agg #[vI bx, vI by_, vI bz]), (1, vP 0 0), (2, .bool false), (3, vP 0 0), (4, vI bx)])) (H1 := [rB [vI bx, vI by_, vI bz] 49]) (by kernel_rfl) ?_
  refine rCall (v := .bool (inR bx 1 4)) (H' := [rB [vI bx, vI by_, vI bz] 49]) (args := [vI bx, vI 1, vI 4]) (by kernel_rfl) rfl (by kernel_rfl) ((within_ok bx 1 4).flat rfl rfl _) ?_
  refine seg 1 (T1 := (mkT 16 [(0, .agg #[vI bx, vI by_, vI bz]), (1, vP 0 0), (2, .bool false), (3, vP 0 0), (4, vI bx), (5, .bool (inR bx 1 4)), (6, .bool (inR bx 1 4))])) (H1 := [rB [vI bx, vI by_, vI bz] 49]) (by kernel_rfl) ?_
  cases h1 : (inR bx 1 4 : Bool)
  ·
    (try simp only [Bool.not_eq_true', Bool.not_eq_false', decide_eq_true_eq, decide_eq_false_iff_not, beq_iff_eq, bne_iff_ne, beq_eq_false_iff_ne, bne_eq_false_iff_eq, ne_eq, Decidable.not_not, Bool.and_eq_true, Bool.and_eq_false_imp, Bool.or_eq_true, Bool.or_eq_false_iff, Bool.not_eq_true, Int.not_lt, Int.not_le, ge_iff_le, gt_iff_lt, inR] at h1)
    refine segEnd [0, 1, 2] (T1 := (mkT 16 [(0, .agg #[vI bx, vI by_, vI bz]), (1, vP 0 0), (2, .bool false)])) (H1 := [rB [vI bx, vI by_, vI bz] 49]) (by kernel_rfl) ?_
    refine kSeq ?_
    refine cRet ?_
    exact endQ (Or.inr rfl) (l := [.bool false]) [rB [vI bx, vI by_, vI bz] 49] (by kernel_rfl) (congrArg Value.bool (Bool.eq_iff_iff.2 (by simp only [inR, valid3, has3, Bool.not_eq_true', Bool.not_eq_false', decide_eq_true_eq, decide_eq_false_iff_not, beq_iff_eq, bne_iff_ne, beq_eq_false_iff_ne, bne_eq_false_iff_eq, ne_eq, Decidable.not_not, Bool.and_eq_true, Bool.and_eq_false_imp, Bool.or_eq_true, Bool.or_eq_false_iff, Bool.not_eq_true, Int.not_lt, Int.not_le, ge_iff_le, gt_iff_lt, Bool.false_eq_true, true_iff, false_iff, iff_self]; try omega))) rfl rfl hcl rfl
  ·
    (try simp only [Bool.not_eq_true', Bool.not_eq_false', decide_eq_true_eq, decide_eq_false_iff_not, beq_iff_eq, bne_iff_ne, beq_eq_false_iff_ne, bne_eq_false_iff_eq, ne_eq, Decidable.not_not, Bool.and_eq_true, Bool.and_eq_false_imp, Bool.or_eq_true, Bool.or_eq_false_iff, Bool.not_eq_true, Int.not_lt, Int.not_le, ge_iff_le, gt_iff_lt, inR] at h1)
    refine seg 2 (T1 := (mkT 16 [(0, .agg #[vI bx, vI by_, vI bz]), (1, vP 0 0), (2, .bool false), (3, vP 0 0), (4, vI bx), (5, .bool true), (6, .bool true), (7, vP 0 1), (8, vI by_)])) (H1 := [rB [vI bx, vI by_, vI bz] 49]) (by kernel_rfl) ?_
    refine rCall (v := .bool (inR by_ 1 4)) (H' := [rB [vI bx, vI by_, vI bz] 49]) (args := [vI by_, vI 1, vI 4]) (by kernel_rfl) rfl (by kernel_rfl) ((within_ok by_ 1 4).flat rfl rfl _) ?_
    refine seg 2 (T1 := (mkT 16 [(0, .agg #[vI bx, vI by_, vI bz]), (1, vP 0 0), (2, .bool false), (3, vP 0 0), (4, vI bx), (5, .bool true), (6, .bool true), (7, vP 0 1), (8, vI by_), (9, .bool (inR by_ 1 4)), (10, .bool (inR by_ 1 4)), (11, .bool (inR by_ 1 4))])) (H1 := [rB [vI bx, vI by_, vI bz] 49]) (by kernel_rfl) ?_
    cases h2 : (inR by_ 1 4 : Bool)
    ·
      (try simp only [Bool.not_eq_true', Bool.not_eq_false', decide_eq_true_eq, decide_eq_false_iff_not, beq_iff_eq, bne_iff_ne, beq_eq_false_iff_ne, bne_eq_false_iff_eq, ne_eq, Decidable.not_not, Bool.and_eq_true, Bool.and_eq_false_imp, Bool.or_eq_true, Bool.or_eq_false_iff, Bool.not_eq_true, Int.not_lt, Int.not_le, ge_iff_le, gt_iff_lt, inR] at h2)
      refine segEnd [0, 1, 2] (T1 := (mkT 16 [(0, .agg #[vI bx, vI by_, vI bz]), (1, vP 0 0), (2, .bool false)])) (H1 := [rB [vI bx, vI by_, vI bz] 49]) (by kernel_rfl) ?_
      refine kSeq ?_
      refine cRet ?_
      exact endQ (Or.inr rfl) (l := [.bool false]) [rB [vI bx, vI by_, vI bz] 49] (by kernel_rfl) (congrArg Value.bool (Bool.eq_iff_iff.2 (by simp only [inR, valid3, has3, Bool.not_eq_true', Bool.not_eq_false', decide_eq_true_eq, decide_eq_false_iff_not, beq_iff_eq, bne_iff_ne, beq_eq_false_iff_ne, bne_eq_false_iff_eq, ne_eq, Decidable.not_not, Bool.and_eq_true, Bool.and_eq_false_imp, Bool.or_eq_true, Bool.or_eq_false_iff, Bool.not_eq_true, Int.not_lt, Int.not_le, ge_iff_le, gt_iff_lt, Bool.false_eq_true, true_iff, false_iff, iff_self]; try omega))) rfl rfl hcl rfl
    ·
      (try simp only [Bool.not_eq_true', Bool.not_eq_false', decide_eq_true_eq, decide_eq_false_iff_not, beq_iff_eq, bne_iff_ne, beq_eq_false_iff_ne, bne_eq_false_iff_eq, ne_eq, Decidable.not_not, Bool.and_eq_true, Bool.and_eq_false_imp, Bool.or_eq_true, Bool.or_eq_false_iff, Bool.not_eq_true, Int.not_lt, Int.not_le, ge_iff_le, gt_iff_lt, inR] at h2)
      refine seg 2 (T1 := (mkT 16 [(0, .agg #[vI bx, vI by_, vI bz]), (1, vP 0 0), (2, .bool false), (3, vP 0 0), (4, vI bx), (5, .bool true), (6, .bool true), (7, vP 0 1), (8, vI by_), (9, .bool true), (10, .bool true), (11, .bool true), (12, vP 0 2), (13, vI bz)])) (H1 := [rB [vI bx, vI by_, vI bz] 49]) (by kernel_rfl) ?_
      refine rCall (v := .bool (inR bz 1 4)) (H' := [rB [vI bx, vI by_, vI bz] 49]) (args := [vI bz, vI 1, vI 4]) (by kernel_rfl) rfl (by kernel_rfl) ((within_ok bz 1 4).flat rfl rfl _) ?_
      refine segEnd [0, 1, 2] (T1 := (mkT 16 [(0, .agg #[vI bx, vI by_, vI bz]), (1, vP 0 0), (2, .bool (inR bz 1 4))])) (H1 := [rB [vI bx, vI by_, vI bz] 49]) (by kernel_rfl) ?_
      refine kSeq ?_
      refine cRet ?_
      exact endQ (Or.inr rfl) (l := [.bool (inR bz 1 4)]) [rB [vI bx, vI by_, vI bz] 49] (by kernel_rfl) (congrArg Value.bool (Bool.eq_iff_iff.2 (by simp only [inR, valid3, has3, Bool.not_eq_true', Bool.not_eq_false', decide_eq_true_eq, decide_eq_false_iff_not, beq_iff_eq, bne_iff_ne, beq_eq_false_iff_ne, bne_eq_false_iff_eq, ne_eq, Decidable.not_not, Bool.and_eq_true, Bool.and_eq_false_imp, Bool.or_eq_true, Bool.or_eq_false_iff, Bool.not_eq_true, Int.not_lt, Int.not_le, ge_iff_le, gt_iff_lt, Bool.false_eq_true, true_iff, false_iff, iff_self]; try omega))) rfl rfl hcl rfl
set_option maxRecDepth 100000 in
set_option maxHeartbeats 4000000 in
theorem sides_ok (bx by_ bz : Int) : Sound Try.prog 22 [vI bx, vI by_, vI bz] [] (.bool (valid3 bx by_ bz)) [] := by
  refine sound_intro (C := cx) Try.func22 rfl (by kernel_rfl) fun hcl => ?_
  refine cSeq ?_
  refine cReg ?_
  refine segEnd [0, 1, 2, 6] (T1 := (mkT 17 [(0, vI bx), (1, vI by_), (2, vI bz), (6, .bool false)])) (H1 := []) (by kernel_rfl) ?_
  refine kSeq ?_
  refine cSeq ?_
  refine cReg ?_
  refine seg 1 (T1 := (mkT 17 [(0, vI bx), (1, vI by_), (2, vI bz), (6, .bool false), (7, vI bx)])) (H1 := []) (by kernel_rfl) ?_
  refine rCall (v := .bool (inR bx 1 4)) (H' := []) (args := [vI bx, vI 1, vI 4]) (by kernel_rfl) rfl (by kernel_rfl) ((l1In_ok bx 1 4).flat rfl rfl _) ?_
  refine seg 1 (T1 := (mkT 17 [(0, vI bx), (1, vI by_), (2, vI bz), (6, .bool false), (7, vI bx), (8, .bool (inR bx 1 4)), (9, .bool (inR bx 1 4))])) (H1 := []) (by kernel_rfl) ?_
  cases h1 : (inR bx 1 4 : Bool)
  ·
    (try simp only [Bool.not_eq_true', Bool.not_eq_false', decide_eq_true_eq, decide_eq_false_iff_not, beq_iff_eq, bne_iff_ne, beq_eq_false_iff_ne, bne_eq_false_iff_eq, ne_eq, Decidable.not_not, Bool.and_eq_true, Bool.and_eq_false_imp, Bool.or_eq_true, Bool.or_eq_false_iff, Bool.not_eq_true, Int.not_lt, Int.not_le, ge_iff_le, gt_iff_lt, inR] at h1)
    refine segEnd [0, 1, 2, 6] (T1 := (mkT 17 [(0, vI bx), (1, vI by_), (2, vI bz), (6, .bool false)])) (H1 := []) (by kernel_rfl) ?_
    refine kSeq ?_
    refine cRet ?_
    exact endQ (Or.inr rfl) (l := [.bool false]) [] (by kernel_rfl) (congrArg Value.bool (Bool.eq_iff_iff.2 (by simp only [inR, valid3, has3, Bool.not_eq_true', Bool.not_eq_false', decide_eq_true_eq, decide_eq_false_iff_not, beq_iff_eq, bne_iff_ne, beq_eq_false_iff_ne, bne_eq_false_iff_eq, ne_eq, Decidable.not_not, Bool.and_eq_true, Bool.and_eq_false_imp, Bool.or_eq_true, Bool.or_eq_false_iff, Bool.not_eq_true, Int.not_lt, Int.not_le, ge_iff_le, gt_iff_lt, Bool.false_eq_true, true_iff, false_iff, iff_self]; try omega))) rfl rfl hcl rfl
  ·
    (try simp only [Bool.not_eq_true', Bool.not_eq_false', decide_eq_true_eq, decide_eq_false_iff_not, beq_iff_eq, bne_iff_ne, beq_eq_false_iff_ne, bne_eq_false_iff_eq, ne_eq, Decidable.not_not, Bool.and_eq_true, Bool.and_eq_false_imp, Bool.or_eq_true, Bool.or_eq_false_iff, Bool.not_eq_true, Int.not_lt, Int.not_le, ge_iff_le, gt_iff_lt, inR] at h1)
    refine seg 1 (T1 := (mkT 17 [(0, vI bx), (1, vI by_), (2, vI bz), (6, .bool false), (7, vI bx), (8, .bool true), (9, .bool true), (10, vI by_)])) (H1 := []) (by kernel_rfl) ?_
    refine rCall (v := .bool (inR by_ 1 4)) (H' := []) (args := [vI by_, vI 1, vI 4]) (by kernel_rfl) rfl (by kernel_rfl) ((l1In_ok by_ 1 4).flat rfl rfl _) ?_
    refine seg 2 (T1 := (mkT 17 [(0, vI bx), (1, vI by_), (2, vI bz), (6, .bool false), (7, vI bx), (8, .bool true), (9, .bool true), (10, vI by_), (11, .bool (inR by_ 1 4)), (12, .bool (inR by_ 1 4)), (13, .bool (inR by_ 1 4))])) (H1 := []) (by kernel_rfl) ?_
    cases h2 : (inR by_ 1 4 : Bool)
    ·
      (try simp only [Bool.not_eq_true', Bool.not_eq_false', decide_eq_true_eq, decide_eq_false_iff_not, beq_iff_eq, bne_iff_ne, beq_eq_false_iff_ne, bne_eq_false_iff_eq, ne_eq, Decidable.not_not, Bool.and_eq_true, Bool.and_eq_false_imp, Bool.or_eq_true, Bool.or_eq_false_iff, Bool.not_eq_true, Int.not_lt, Int.not_le, ge_iff_le, gt_iff_lt, inR] at h2)
      refine segEnd [0, 1, 2, 6] (T1 := (mkT 17 [(0, vI bx), (1, vI by_), (2, vI bz), (6, .bool false)])) (H1 := []) (by kernel_rfl) ?_
      refine kSeq ?_
      refine cRet ?_
      exact endQ (Or.inr rfl) (l := [.bool false]) [] (by kernel_rfl) (congrArg Value.bool (Bool.eq_iff_iff.2 (by simp only [inR, valid3, has3, Bool.not_eq_true', Bool.not_eq_false', decide_eq_true_eq, decide_eq_false_iff_not, beq_iff_eq, bne_iff_ne, beq_eq_false_iff_ne, bne_eq_false_iff_eq, ne_eq, Decidable.not_not, Bool.and_eq_true, Bool.and_eq_false_imp, Bool.or_eq_true, Bool.or_eq_false_iff, Bool.not_eq_true, Int.not_lt, Int.not_le, ge_iff_le, gt_iff_lt, Bool.false_eq_true, true_iff, false_iff, iff_self]; try omega))) rfl rfl hcl rfl
    ·
      (try simp only [Bool.not_eq_true', Bool.not_eq_false', decide_eq_true_eq, decide_eq_false_iff_not, beq_iff_eq, bne_iff_ne, beq_eq_false_iff_ne, bne_eq_false_iff_eq, ne_eq, Decidable.not_not, Bool.and_eq_true, Bool.and_eq_false_imp, Bool.or_eq_true, Bool.or_eq_false_iff, Bool.not_eq_true, Int.not_lt, Int.not_le, ge_iff_le, gt_iff_lt, inR] at h2)
      refine seg 1 (T1 := (mkT 17 [(0, vI bx), (1, vI by_), (2, vI bz), (6, .bool false), (7, vI bx), (8, .bool true), (9, .bool true), (10, vI by_), (11, .bool true), (12, .bool true), (13, .bool true), (14, vI bz)])) (H1 := []) (by kernel_rfl) ?_
      refine rCall (v := .bool (inR bz 1 4)) (H' := []) (args := [vI bz, vI 1, vI 4]) (by kernel_rfl) rfl (by kernel_rfl) ((l1In_ok bz 1 4).flat rfl rfl _) ?_
      refine segEnd [0, 1, 2, 6] (T1 := (mkT 17 [(0, vI bx), (1, vI by_), (2, vI bz), (6, .bool (inR bz 1 4))])) (H1 := []) (by kernel_rfl) ?_
      refine kSeq ?_
      refine cRet ?_
      exact endQ (Or.inr rfl) (l := [.bool (inR bz 1 4)]) [] (by kernel_rfl) (congrArg Value.bool (Bool.eq_iff_iff.2 (by simp only [inR, valid3, has3, Bool.not_eq_true', Bool.not_eq_false', decide_eq_true_eq, decide_eq_false_iff_not, beq_iff_eq, bne_iff_ne, beq_eq_false_iff_ne, bne_eq_false_iff_eq, ne_eq, Decidable.not_not, Bool.and_eq_true, Bool.and_eq_false_imp, Bool.or_eq_true, Bool.or_eq_false_iff, Bool.not_eq_true, Int.not_lt, Int.not_le, ge_iff_le, gt_iff_lt, Bool.false_eq_true, true_iff, false_iff, iff_self]; try omega))) rfl rfl hcl rfl
end Go.Proofs.Yteohlhpdbnhbaaa.F
set_option linter.unusedVariables false
set_option linter.unusedSimpArgs false
namespace Go.Proofs.Yteohlhpdbnhbaaa.F
open Go.Am Go.RowKit
end Go.Proofs.Yteohlhpdbnhbaaa.F
set_option linter.unusedVariables false
set_option linter.unusedSimpArgs false
namespace Go.Proofs.Yteohlhpdbnhbaaa.F
open Go.Am Go.RowKit
set_option maxRecDepth 100000 in
set_option maxHeartbeats 4000000 in
theorem eqA3_same (a b c : Int) : Sound Try.prog 31 [.agg #[vI a, vI b, vI c], .agg #[vI a, vI b, vI c]] [] (.bool true) [] := by
  refine sound_intro (C := cx) Try.func31 rfl (by kernel_rfl) fun hcl => ?_
  refine cSeq ?_
  refine cReg ?_
  refine segEnd [0, 1, 2, 3, 4] (T1 := (mkT 17 [(0, .agg #[vI a, vI b, vI c]), (1, .agg #[vI a, vI b, vI c]), (2, vP 0 0), (3, vP 1 0), (4, .bool false)])) (H1 := [rB [vI a, vI b, vI c] 46, rB [vI a, vI b, vI c] 46]) (by kernel_rfl) ?_
  refine kSeq ?_
  refine cSeq ?_
  refine cSeq ?_
  refine cReg ?_
  refine segEnd [0, 1, 2, 3, 4, 5] (T1 := (mkT 17 [(0, .agg #[vI a, vI b, vI c]), (1, .agg #[vI a, vI b, vI c]), (2, vP 0 0), (3, vP 1 0), (4, .bool false), (5, vI 0)])) (H1 := [rB [vI a, vI b, vI c] 46, rB [vI a, vI b, vI c] 46]) (by kernel_rfl) ?_
  refine kSeq ?_
  refine cBlk ?_
  refine cLoop (fun mm T H => ∃ i : Nat, (i ≤ 3) ∧ mm = 3 - i ∧ T = (mkT 17 [(2, vP 0 0), (3, vP 1 0), (4, .bool false), (5, vN i)]) ∧ H = [rB [vI a, vI b, vI c] 46, rB [vI a, vI b, vI c] 46]) (3 - 0) (mkT 17 [(2, vP 0 0), (3, vP 1 0), (4, .bool false), (5, vI 0)]) [rB [vI a, vI b, vI c] 46, rB [vI a, vI b, vI c] 46] (wkSame [2, 3, 4, 5] (by kernel_rfl)) ?_ ?_
  · exact ⟨0, (Nat.zero_le _), rfl, rfl, rfl⟩
  · rintro _ _ _ ⟨i, hi, rfl, rfl, rfl⟩
    have hcase : i = 0 ∨ i = 1 ∨ i = 2 ∨ i = 3 := by omega
    rcases hcase with rfl | rfl | rfl | rfl
    ·
      refine cSeq ?_
      refine cSeq ?_
      refine cReg ?_
      refine segEnd [2, 3, 4, 5, 7] (T1 := (mkT 17 [(2, vP 0 0), (3, vP 1 0), (4, .bool false), (5, vI 0), (7, .bool true)])) (H1 := [rB [vI a, vI b, vI c] 46, rB [vI a, vI b, vI c] 46]) (by kernel_rfl) ?_
      refine kSeq ?_
      refine cTrue (by kernel_rfl) ?_
      refine cSkip ?_
      refine kSeq ?_
      refine cSeq ?_
      refine cBlk ?_
      refine cSeq ?_
      refine cRegD (by kernel_rfl) ?_
      refine segD 6 (T1 := (mkT 17 [(2, vP 0 0), (3, vP 1 0), (4, .bool false), (5, vI 0), (7, .bool true), (10, vI 0), (11, vP 0 0), (12, vI a), (13, vI 0), (14, vP 1 0), (15, vI a)])) (H1 := [rB [vI a, vI b, vI c] 46, rB [vI a, vI b, vI c] 46]) (by kernel_rfl) ?_
      refine rOpD (v := .bool false) (H' := [rB [vI a, vI b, vI c] 46, rB [vI a, vI b, vI c] 46]) (by kernel_rfl) (eNeS (k := .i64) (a := a) (by kernel_rfl) (by kernel_rfl)) (by rfl) ?_
      refine segEndD [2, 3, 4, 5, 7, 16] (T1 := (mkT 17 [(2, vP 0 0), (3, vP 1 0), (4, .bool false), (5, vI 0), (7, .bool true), (16, .bool false)])) (H1 := [rB [vI a, vI b, vI c] 46, rB [vI a, vI b, vI c] 46]) (by kernel_rfl) ?_
      refine kSeq ?_
      refine cFalse (by kernel_rfl) ?_
      refine cSkip ?_
      refine kBlk ?_
      refine kSeq ?_
      refine cReg ?_
      refine segEnd [2, 3, 4, 5, 7, 16] (T1 := (mkT 17 [(2, vP 0 0), (3, vP 1 0), (4, .bool false), (5, vI 1), (7, .bool true), (16, .bool false)])) (H1 := [rB [vI a, vI b, vI c] 46, rB [vI a, vI b, vI c] 46]) (by kernel_rfl) ?_
      exact kLoop (3 - 1) (mkT 17 [(2, vP 0 0), (3, vP 1 0), (4, .bool false), (5, vI 1)]) [rB [vI a, vI b, vI c] 46, rB [vI a, vI b, vI c] 46] (by omega) (wkSame [2, 3, 4, 5] (by kernel_rfl)) ⟨1, (by omega), rfl, rfl, rfl⟩
    ·
      refine cSeq ?_
      refine cSeq ?_
      refine cReg ?_
      refine segEnd [2, 3, 4, 5, 7] (T1 := (mkT 17 [(2, vP 0 0), (3, vP 1 0), (4, .bool false), (5, vI 1), (7, .bool true)])) (H1 := [rB [vI a, vI b, vI c] 46, rB [vI a, vI b, vI c] 46]) (by kernel_rfl) ?_
      refine kSeq ?_
      refine cTrue (by kernel_rfl) ?_
      refine cSkip ?_
      refine kSeq ?_
      refine cSeq ?_
      refine cBlk ?_
      refine cSeq ?_
      refine cRegD (by kernel_rfl) ?_
      refine segD 6 (T1 := (mkT 17 [(2, vP 0 0), (3, vP 1 0), (4, .bool false), (5, vI 1), (7, .bool true), (10, vI 1), (11, vP 0 1), (12, vI b), (13, vI 1), (14, vP 1 1), (15, vI b)])) (H1 := [rB [vI a, vI b, vI c] 46, rB [vI a, vI b, vI c] 46]) (by kernel_rfl) ?_
      refine rOpD (v := .bool false) (H' := [rB [vI a, vI b, vI c] 46, rB [vI a, vI b, vI c] 46]) (by kernel_rfl) (eNeS (k := .i64) (a := b) (by kernel_rfl) (by kernel_rfl)) (by rfl) ?_
      refine segEndD [2, 3, 4, 5, 7, 16] (T1 := (mkT 17 [(2, vP 0 0), (3, vP 1 0), (4, .bool false), (5, vI 1), (7, .bool true), (16, .bool false)])) (H1 := [rB [vI a, vI b, vI c] 46, rB [vI a, vI b, vI c] 46]) (by kernel_rfl) ?_
      refine kSeq ?_
      refine cFalse (by kernel_rfl) ?_
      refine cSkip ?_
      refine kBlk ?_
      refine kSeq ?_
      refine cReg ?_
      refine segEnd [2, 3, 4, 5, 7, 16] (T1 := (mkT 17 [(2, vP 0 0), (3, vP 1 0), (4, .bool false), (5, vI 2), (7, .bool true), (16, .bool false)])) (H1 := [rB [vI a, vI b, vI c] 46, rB [vI a, vI b, vI c] 46]) (by kernel_rfl) ?_
      exact kLoop (3 - 2) (mkT 17 [(2, vP 0 0), (3, vP 1 0), (4, .bool false), (5, vI 2)]) [rB [vI a, vI b, vI c] 46, rB [vI a, vI b, vI c] 46] (by omega) (wkSame [2, 3, 4, 5] (by kernel_rfl)) ⟨2, (by omega), rfl, rfl, rfl⟩
    ·
      refine cSeq ?_
      refine cSeq ?_
      refine cReg ?_
      refine segEnd [2, 3, 4, 5, 7] (T1 := (mkT 17 [(2, vP 0 0), (3, vP 1 0), (4, .bool false), (5, vI 2), (7, .bool true)])) (H1 := [rB [vI a, vI b, vI c] 46, rB [vI a, vI b, vI c] 46]) (by kernel_rfl) ?_
      refine kSeq ?_
      refine cTrue (by kernel_rfl) ?_
      refine cSkip ?_
      refine kSeq ?_
      refine cSeq ?_
      refine cBlk ?_
      refine cSeq ?_
      refine cRegD (by kernel_rfl) ?_
      refine segD 6 (T1 := (mkT 17 [(2, vP 0 0), (3, vP 1 0), (4, .bool false), (5, vI 2), (7, .bool true), (10, vI 2), (11, vP 0 2), (12, vI c), (13, vI 2), (14, vP 1 2), (15, vI c)])) (H1 := [rB [vI a, vI b, vI c] 46, rB [vI a, vI b, vI c] 46]) (by kernel_rfl) ?_
      refine rOpD (v := .bool false) (H' := [rB [vI a, vI b, vI c] 46, rB [vI a, vI b, vI c] 46]) (by kernel_rfl) (eNeS (k := .i64) (a := c) (by kernel_rfl) (by kernel_rfl)) (by rfl) ?_
      refine segEndD [2, 3, 4, 5, 7, 16] (T1 := (mkT 17 [(2, vP 0 0), (3, vP 1 0), (4, .bool false), (5, vI 2), (7, .bool true), (16, .bool false)])) (H1 := [rB [vI a, vI b, vI c] 46, rB [vI a, vI b, vI c] 46]) (by kernel_rfl) ?_
      refine kSeq ?_
      refine cFalse (by kernel_rfl) ?_
      refine cSkip ?_
      refine kBlk ?_
      refine kSeq ?_
      refine cReg ?_
      refine segEnd [2, 3, 4, 5, 7, 16] (T1 := (mkT 17 [(2, vP 0 0), (3, vP 1 0), (4, .bool false), (5, vI 3), (7, .bool true), (16, .bool false)])) (H1 := [rB [vI a, vI b, vI c] 46, rB [vI a, vI b, vI c] 46]) (by kernel_rfl) ?_
      exact kLoop (3 - 3) (mkT 17 [(2, vP 0 0), (3, vP 1 0), (4, .bool false), (5, vI 3)]) [rB [vI a, vI b, vI c] 46, rB [vI a, vI b, vI c] 46] (by omega) (wkSame [2, 3, 4, 5] (by kernel_rfl)) ⟨3, (by omega), rfl, rfl, rfl⟩
    ·
      refine cSeq ?_
      refine cSeq ?_
      refine cReg ?_
      refine segEnd [2, 3, 4, 5, 7] (T1 := (mkT 17 [(2, vP 0 0), (3, vP 1 0), (4, .bool false), (5, vI 3), (7, .bool false)])) (H1 := [rB [vI a, vI b, vI c] 46, rB [vI a, vI b, vI c] 46]) (by kernel_rfl) ?_
      refine kSeq ?_
      refine cFalse (by kernel_rfl) ?_
      refine cExit ?_
      refine kSeqE ?_
      refine kLoopE ?_
      refine kBlkHit ?_
      refine kSeq ?_
      refine cSeq ?_
      refine cReg ?_
      refine segEnd [2, 3, 4, 5, 7] (T1 := (mkT 17 [(2, vP 0 0), (3, vP 1 0), (4, .bool true), (5, vI 3), (7, .bool false)])) (H1 := [rB [vI a, vI b, vI c] 46, rB [vI a, vI b, vI c] 46]) (by kernel_rfl) ?_
      refine kSeq ?_
      refine cRet ?_
      exact endQ (Or.inr rfl) (l := [.bool true]) [rB [vI a, vI b, vI c] 46, rB [vI a, vI b, vI c] 46] (by kernel_rfl) (rfl) rfl rfl hcl rfl
set_option maxRecDepth 100000 in
set_option maxHeartbeats 4000000 in
theorem eqA3S_same (L : List A3) (hL : L.length ≤ 1048576) : Sound Try.prog 19 [vS 0 L.length, vS 1 L.length] [some ⟨a3s L, 46, false, false⟩, some ⟨a3s L, 46, false, false⟩] (.bool true) [some ⟨a3s L, 46, false, false⟩, some ⟨a3s L, 46, false, false⟩] := by
  refine sound_intro (C := cx) Try.func19 rfl (by kernel_rfl) fun hcl => ?_
  refine cSeq ?_
  refine cReg ?_
  refine segEnd [0, 1, 4] (T1 := (mkT 27 [(0, vS 0 L.length), (1, vS 1 L.length), (4, .bool false)])) (H1 := [some ⟨a3s L, 46, false, false⟩, some ⟨a3s L, 46, false, false⟩]) (by kernel_rfl) ?_
  refine kSeq ?_
  refine cSeq ?_
  refine cSeq ?_
  refine cReg ?_
  refine seg 4 (T1 := (mkT 27 [(0, vS 0 L.length), (1, vS 1 L.length), (4, .bool false), (6, vS 0 L.length), (7, vN L.length), (8, vS 1 L.length), (9, vN L.length)])) (H1 := [some ⟨a3s L, 46, false, false⟩, some ⟨a3s L, 46, false, false⟩]) (by kernel_rfl) ?_
  refine rOp (v := .bool false) (H' := [some ⟨a3s L, 46, false, false⟩, some ⟨a3s L, 46, false, false⟩]) (by kernel_rfl) (eNeS (k := .i64) (a := ((L.length : Nat) : Int)) (by kernel_rfl) (by kernel_rfl)) ?_
  refine segEnd [0, 1, 4, 10] (T1 := (mkT 27 [(0, vS 0 L.length), (1, vS 1 L.length), (4, .bool false), (10, .bool false)])) (H1 := [some ⟨a3s L, 46, false, false⟩, some ⟨a3s L, 46, false, false⟩]) (by kernel_rfl) ?_
  refine kSeq ?_
  refine cFalse (by kernel_rfl) ?_
  refine cSkip ?_
  refine kSeq ?_
  refine cSeq ?_
  refine cSeq ?_
  refine cReg ?_
  refine segEnd [0, 1, 4, 5, 10] (T1 := (mkT 27 [(0, vS 0 L.length), (1, vS 1 L.length), (4, .bool false), (5, vI 0), (10, .bool false)])) (H1 := [some ⟨a3s L, 46, false, false⟩, some ⟨a3s L, 46, false, false⟩]) (by kernel_rfl) ?_
  refine kSeq ?_
  refine cBlk ?_
  refine cLoop (fun mm T H => ∃ i : Nat, (i ≤ L.length) ∧ mm = L.length - i ∧ T = (mkT 27 [(0, vS 0 L.length), (1, vS 1 L.length), (4, .bool false), (5, vN i)]) ∧ H = [some ⟨a3s L, 46, false, false⟩, some ⟨a3s L, 46, false, false⟩]) (L.length - 0) (mkT 27 [(0, vS 0 L.length), (1, vS 1 L.length), (4, .bool false), (5, vI 0)]) [some ⟨a3s L, 46, false, false⟩, some ⟨a3s L, 46, false, false⟩] (wkSame [0, 1, 4, 5] (by kernel_rfl)) ?_ ?_
  · exact ⟨0, (Nat.zero_le _), rfl, rfl, rfl⟩
  · rintro _ _ _ ⟨i, hi, rfl, rfl, rfl⟩
    refine cSeq ?_
    refine cSeq ?_
    refine cReg ?_
    refine segEnd [0, 1, 4, 5, 14] (T1 := (mkT 27 [(0, vS 0 L.length), (1, vS 1 L.length), (4, .bool false), (5, vN i), (14, .bool (decide (((i : Nat) : Int) < ((L.length : Nat) : Int))))])) (H1 := [some ⟨a3s L, 46, false, false⟩, some ⟨a3s L, 46, false, false⟩]) (by kernel_rfl) ?_
    refine kSeq ?_
    cases h1 : (decide (((i : Nat) : Int) < ((L.length : Nat) : Int)) : Bool)
    ·
      (try simp only [Bool.not_eq_true', Bool.not_eq_false', decide_eq_true_eq, decide_eq_false_iff_not, beq_iff_eq, bne_iff_ne, beq_eq_false_iff_ne, bne_eq_false_iff_eq, ne_eq, Decidable.not_not, Bool.and_eq_true, Bool.and_eq_false_imp, Bool.or_eq_true, Bool.or_eq_false_iff, Bool.not_eq_true, Int.not_lt, Int.not_le, ge_iff_le, gt_iff_lt] at h1)
      refine cFalse (by kernel_rfl) ?_
      refine cExit ?_
      refine kSeqE ?_
      refine kLoopE ?_
      refine kBlkHit ?_
      refine kSeq ?_
      refine cSeq ?_
      refine cReg ?_
      refine segEnd [0, 1, 4, 5, 14] (T1 := (mkT 27 [(0, vS 0 L.length), (1, vS 1 L.length), (4, .bool true), (5, vN i), (14, .bool false)])) (H1 := [some ⟨a3s L, 46, false, false⟩, some ⟨a3s L, 46, false, false⟩]) (by kernel_rfl) ?_
      refine kSeq ?_
      refine cRet ?_
      exact endQ (Or.inr rfl) (l := [.bool true]) [] (by kernel_rfl) (rfl) rfl rfl hcl rfl
    ·
      (try simp only [Bool.not_eq_true', Bool.not_eq_false', decide_eq_true_eq, decide_eq_false_iff_not, beq_iff_eq, bne_iff_ne, beq_eq_false_iff_ne, bne_eq_false_iff_eq, ne_eq, Decidable.not_not, Bool.and_eq_true, Bool.and_eq_false_imp, Bool.or_eq_true, Bool.or_eq_false_iff, Bool.not_eq_true, Int.not_lt, Int.not_le, ge_iff_le, gt_iff_lt] at h1)
      refine cTrue (by kernel_rfl) ?_
      refine cSkip ?_
      refine kSeq ?_
      refine cSeq ?_
      refine cBlk ?_
      refine cSeq ?_
      refine cRegD (by kernel_rfl) ?_
      refine segD 2 (T1 := (mkT 27 [(0, vS 0 L.length), (1, vS 1 L.length), (4, .bool false), (5, vN i), (14, .bool true), (17, vS 0 L.length), (18, vN i)])) (H1 := [some ⟨a3s L, 46, false, false⟩, some ⟨a3s L, 46, false, false⟩]) (by kernel_rfl) ?_
      refine rOpD (v := vP 0 (i * 3)) (H' := [some ⟨a3s L, 46, false, false⟩, some ⟨a3s L, 46, false, false⟩]) (by kernel_rfl) (eIdxS (ad := ⟨0, 0, none⟩) (n := L.length) (m := 0) (k := .i64) (c := ((i : Nat) : Int)) (j := i) (o := i * 3) (by kernel_rfl) (by kernel_rfl) ti22 ti46 (rfl) (by omega) (by exact Nat.zero_add _)) (by rfl) ?_
      refine rOpD (v := .agg #[vI ((L.getD i default).x), vI ((L.getD i default).y), vI ((L.getD i default).z)]) (H' := [some ⟨a3s L, 46, false, false⟩, some ⟨a3s L, 46, false, false⟩]) (by kernel_rfl) (eLdA3 (ad := ⟨0, i * 3, none⟩) (r := ⟨a3s L, 46, false, false⟩) (L := L) (j := i) (by kernel_rfl) (by kernel_rfl) rfl (by first | rfl | omega) (by omega) ti46) (by rfl) ?_
      refine segD 2 (T1 := (mkT 27 [(0, vS 0 L.length), (1, vS 1 L.length), (4, .bool false), (5, vN i), (14, .bool true), (17, vS 0 L.length), (18, vN i), (19, vP 0 (i * 3)), (20, .agg #[vI ((L.getD i default).x), vI ((L.getD i default).y), vI ((L.getD i default).z)]), (21, vS 1 L.length), (22, vN i)])) (H1 := [some ⟨a3s L, 46, false, false⟩, some ⟨a3s L, 46, false, false⟩]) (by kernel_rfl) ?_
      refine rOpD (v := vP 1 (i * 3)) (H' := [some ⟨a3s L, 46, false, false⟩, some ⟨a3s L, 46, false, false⟩]) (by kernel_rfl) (eIdxS (ad := ⟨1, 0, none⟩) (n := L.length) (m := 0) (k := .i64) (c := ((i : Nat) : Int)) (j := i) (o := i * 3) (by kernel_rfl) (by kernel_rfl) ti22 ti46 (rfl) (by omega) (by exact Nat.zero_add _)) (by rfl) ?_
      refine rOpD (v := .agg #[vI ((L.getD i default).x), vI ((L.getD i default).y), vI ((L.getD i default).z)]) (H' := [some ⟨a3s L, 46, false, false⟩, some ⟨a3s L, 46, false, false⟩]) (by kernel_rfl) (eLdA3 (ad := ⟨1, i * 3, none⟩) (r := ⟨a3s L, 46, false, false⟩) (L := L) (j := i) (by kernel_rfl) (by kernel_rfl) rfl (by first | rfl | omega) (by omega) ti46) (by rfl) ?_
      refine rCallQ (v := .bool true) (args := [.agg #[vI ((L.getD i default).x), vI ((L.getD i default).y), vI ((L.getD i default).z)], .agg #[vI ((L.getD i default).x), vI ((L.getD i default).y), vI ((L.getD i default).z)]]) (by kernel_rfl) rfl (by kernel_rfl) (by kernel_rfl) (by kernel_rfl) (Quiet.flat (eqA3_same ((L.getD i default).x) ((L.getD i default).y) ((L.getD i default).z)) rfl rfl) ?_
      refine segEndD [0, 1, 4, 5, 14, 26] (T1 := (mkT 27 [(0, vS 0 L.length), (1, vS 1 L.length), (4, .bool false), (5, vN i), (14, .bool true), (26, .bool false)])) (H1 := [some ⟨a3s L, 46, false, false⟩, some ⟨a3s L, 46, false, false⟩]) (by kernel_rfl) ?_
      refine kSeq ?_
      refine cFalse (by kernel_rfl) ?_
      refine cSkip ?_
      refine kBlk ?_
      refine kSeq ?_
      refine cReg ?_
      refine seg 1 (T1 := (mkT 27 [(0, vS 0 L.length), (1, vS 1 L.length), (4, .bool false), (5, vN i), (14, .bool true), (15, vN i), (26, .bool false)])) (H1 := [some ⟨a3s L, 46, false, false⟩, some ⟨a3s L, 46, false, false⟩]) (by kernel_rfl) ?_
      refine rOp (v := vN (i + 1)) (H' := [some ⟨a3s L, 46, false, false⟩, some ⟨a3s L, 46, false, false⟩]) (by kernel_rfl) (eAdd (k := .i64) (a := ((i : Nat) : Int)) (b := 1) (c := ((i + 1 : Nat) : Int)) (by kernel_rfl) (by kernel_rfl) (wr64 (by omega) (by omega) (by omega))) ?_
      refine segEnd [0, 1, 4, 5, 14, 26] (T1 := (mkT 27 [(0, vS 0 L.length), (1, vS 1 L.length), (4, .bool false), (5, vN (i + 1)), (14, .bool true), (26, .bool false)])) (H1 := [some ⟨a3s L, 46, false, false⟩, some ⟨a3s L, 46, false, false⟩]) (by kernel_rfl) ?_
      exact kLoop (L.length - (i + 1)) (mkT 27 [(0, vS 0 L.length), (1, vS 1 L.length), (4, .bool false), (5, vN (i + 1))]) [some ⟨a3s L, 46, false, false⟩, some ⟨a3s L, 46, false, false⟩] (by omega) (wkSame [0, 1, 4, 5] (by kernel_rfl)) ⟨(i + 1), (by omega), rfl, rfl, rfl⟩
set_option maxRecDepth 100000 in
set_option maxHeartbeats 4000000 in
theorem eqHeap_same (x y z : Int) (L : List A3) (hL : L.length ≤ 1048576) : Sound Try.prog 10 [.agg #[vI x, vI y, vI z, vS 0 L.length], .agg #[vI x, vI y, vI z, vS 1 L.length]] [some ⟨a3s L, 46, false, false⟩, some ⟨a3s L, 46, false, false⟩] (.bool true) [some ⟨a3s L, 46, false, false⟩, some ⟨a3s L, 46, false, false⟩] := by
  refine sound_intro (C := cx) Try.func10 rfl (by kernel_rfl) fun hcl => ?_
  refine cSeq ?_
  refine cReg ?_
  refine segEnd [0, 1, 2, 3, 4] (T1 := (mkT 26 [(0, .agg #[vI x, vI y, vI z, vS 0 L.length]), (1, .agg #[vI x, vI y, vI z, vS 1 L.length]), (2, vP 2 0), (3, vP 3 0), (4, .bool false)])) (H1 := [some ⟨a3s L, 46, false, false⟩, some ⟨a3s L, 46, false, false⟩, rB [vI x, vI y, vI z, vS 0 L.length] 29, rB [vI x, vI y, vI z, vS 1 L.length] 29]) (by kernel_rfl) ?_
  refine kSeq ?_
  refine cSeq ?_
  refine cSeq ?_
  refine cReg ?_
  refine seg 4 (T1 := (mkT 26 [(0, .agg #[vI x, vI y, vI z, vS 0 L.length]), (1, .agg #[vI x, vI y, vI z, vS 1 L.length]), (2, vP 2 0), (3, vP 3 0), (4, .bool false), (5, vP 2 0), (6, vI x), (7, vP 3 0), (8, vI x)])) (H1 := [some ⟨a3s L, 46, false, false⟩, some ⟨a3s L, 46, false, false⟩, rB [vI x, vI y, vI z, vS 0 L.length] 29, rB [vI x, vI y, vI z, vS 1 L.length] 29]) (by kernel_rfl) ?_
  refine rOp (v := .bool false) (H' := [some ⟨a3s L, 46, false, false⟩, some ⟨a3s L, 46, false, false⟩, rB [vI x, vI y, vI z, vS 0 L.length] 29, rB [vI x, vI y, vI z, vS 1 L.length] 29]) (by kernel_rfl) (eNeS (k := .i64) (a := x) (by kernel_rfl) (by kernel_rfl)) ?_
  refine segEnd [0, 1, 2, 3, 4, 9] (T1 := (mkT 26 [(0, .agg #[vI x, vI y, vI z, vS 0 L.length]), (1, .agg #[vI x, vI y, vI z, vS 1 L.length]), (2, vP 2 0), (3, vP 3 0), (4, .bool false), (9, .bool false)])) (H1 := [some ⟨a3s L, 46, false, false⟩, some ⟨a3s L, 46, false, false⟩, rB [vI x, vI y, vI z, vS 0 L.length] 29, rB [vI x, vI y, vI z, vS 1 L.length] 29]) (by kernel_rfl) ?_
  refine kSeq ?_
  refine cFalse (by kernel_rfl) ?_
  refine cSkip ?_
  refine kSeq ?_
  refine cSeq ?_
  refine cSeq ?_
  refine cReg ?_
  refine seg 4 (T1 := (mkT 26 [(0, .agg #[vI x, vI y, vI z, vS 0 L.length]), (1, .agg #[vI x, vI y, vI z, vS 1 L.length]), (2, vP 2 0), (3, vP 3 0), (4, .bool false), (9, .bool false), (10, vP 2 1), (11, vI y), (12, vP 3 1), (13, vI y)])) (H1 := [some ⟨a3s L, 46, false, false⟩, some ⟨a3s L, 46, false, false⟩, rB [vI x, vI y, vI z, vS 0 L.length] 29, rB [vI x, vI y, vI z, vS 1 L.length] 29]) (by kernel_rfl) ?_
  refine rOp (v := .bool false) (H' := [some ⟨a3s L, 46, false, false⟩, some ⟨a3s L, 46, false, false⟩, rB [vI x, vI y, vI z, vS 0 L.length] 29, rB [vI x, vI y, vI z, vS 1 L.length] 29]) (by kernel_rfl) (eNeS (k := .i64) (a := y) (by kernel_rfl) (by kernel_rfl)) ?_
  refine segEnd [0, 1, 2, 3, 4, 9, 14] (T1 := (mkT 26 [(0, .agg #[vI x, vI y, vI z, vS 0 L.length]), (1, .agg #[vI x, vI y, vI z, vS 1 L.length]), (2, vP 2 0), (3, vP 3 0), (4, .bool false), (9, .bool false), (14, .bool false)])) (H1 := [some ⟨a3s L, 46, false, false⟩, some ⟨a3s L, 46, false, false⟩, rB [vI x, vI y, vI z, vS 0 L.length] 29, rB [vI x, vI y, vI z, vS 1 L.length] 29]) (by kernel_rfl) ?_
  refine kSeq ?_
  refine cFalse (by kernel_rfl) ?_
  refine cSkip ?_
  refine kSeq ?_
  refine cSeq ?_
  refine cSeq ?_
  refine cReg ?_
  refine seg 4 (T1 := (mkT 26 [(0, .agg #[vI x, vI y, vI z, vS 0 L.length]), (1, .agg #[vI x, vI y, vI z, vS 1 L.length]), (2, vP 2 0), (3, vP 3 0), (4, .bool false), (9, .bool false), (14, .bool false), (15, vP 2 2), (16, vI z), (17, vP 3 2), (18, vI z)])) (H1 := [some ⟨a3s L, 46, false, false⟩, some ⟨a3s L, 46, false, false⟩, rB [vI x, vI y, vI z, vS 0 L.length] 29, rB [vI x, vI y, vI z, vS 1 L.length] 29]) (by kernel_rfl) ?_
  refine rOp (v := .bool false) (H' := [some ⟨a3s L, 46, false, false⟩, some ⟨a3s L, 46, false, false⟩, rB [vI x, vI y, vI z, vS 0 L.length] 29, rB [vI x, vI y, vI z, vS 1 L.length] 29]) (by kernel_rfl) (eNeS (k := .i64) (a := z) (by kernel_rfl) (by kernel_rfl)) ?_
  refine segEnd [0, 1, 2, 3, 4, 9, 14, 19] (T1 := (mkT 26 [(0, .agg #[vI x, vI y, vI z, vS 0 L.length]), (1, .agg #[vI x, vI y, vI z, vS 1 L.length]), (2, vP 2 0), (3, vP 3 0), (4, .bool false), (9, .bool false), (14, .bool false), (19, .bool false)])) (H1 := [some ⟨a3s L, 46, false, false⟩, some ⟨a3s L, 46, false, false⟩, rB [vI x, vI y, vI z, vS 0 L.length] 29, rB [vI x, vI y, vI z, vS 1 L.length] 29]) (by kernel_rfl) ?_
  refine kSeq ?_
  refine cFalse (by kernel_rfl) ?_
  refine cSkip ?_
  refine kSeq ?_
  refine cSeq ?_
  refine cSeq ?_
  refine cReg ?_
  refine seg 4 (T1 := (mkT 26 [(0, .agg #[vI x, vI y, vI z, vS 0 L.length]), (1, .agg #[vI x, vI y, vI z, vS 1 L.length]), (2, vP 2 0), (3, vP 3 0), (4, .bool false), (9, .bool false), (14, .bool false), (19, .bool false), (20, vP 2 3), (21, vS 0 L.length), (22, vP 3 3), (23, vS 1 L.length)])) (H1 := [some ⟨a3s L, 46, false, false⟩, some ⟨a3s L, 46, false, false⟩, rB [vI x, vI y, vI z, vS 0 L.length] 29, rB [vI x, vI y, vI z, vS 1 L.length] 29]) (by kernel_rfl) ?_
  refine rCall (v := .bool true) (H' := [some ⟨a3s L, 46, false, false⟩, some ⟨a3s L, 46, false, false⟩, rB [vI x, vI y, vI z, vS 0 L.length] 29, rB [vI x, vI y, vI z, vS 1 L.length] 29]) (args := [vS 0 L.length, vS 1 L.length]) (by kernel_rfl) rfl (by kernel_rfl) (Sound.reads2 0 1 false false (eqA3S_same L (by first | omega | (simp only [allOf_length, List.length_nil, mk3_length]; omega))) (flatA3 _ _ _ _) (flatA3 _ _ _ _) rfl rfl rfl rfl rfl (by first | rfl | simp [mpV, mpA, mpS, mpP, renId, shift]) rfl) ?_
  refine segEnd [0, 1, 2, 3, 4, 9, 14, 19, 25] (T1 := (mkT 26 [(0, .agg #[vI x, vI y, vI z, vS 0 L.length]), (1, .agg #[vI x, vI y, vI z, vS 1 L.length]), (2, vP 2 0), (3, vP 3 0), (4, .bool false), (9, .bool false), (14, .bool false), (19, .bool false), (25, .bool false)])) (H1 := [some ⟨a3s L, 46, false, false⟩, some ⟨a3s L, 46, false, false⟩, rB [vI x, vI y, vI z, vS 0 L.length] 29, rB [vI x, vI y, vI z, vS 1 L.length] 29]) (by kernel_rfl) ?_
  refine kSeq ?_
  refine cFalse (by kernel_rfl) ?_
  refine cSkip ?_
  refine kSeq ?_
  refine cSeq ?_
  refine cReg ?_
  refine segEnd [0, 1, 2, 3, 4, 9, 14, 19, 25] (T1 := (mkT 26 [(0, .agg #[vI x, vI y, vI z, vS 0 L.length]), (1, .agg #[vI x, vI y, vI z, vS 1 L.length]), (2, vP 2 0), (3, vP 3 0), (4, .bool true), (9, .bool false), (14, .bool false), (19, .bool false), (25, .bool false)])) (H1 := [some ⟨a3s L, 46, false, false⟩, some ⟨a3s L, 46, false, false⟩, rB [vI x, vI y, vI z, vS 0 L.length] 29, rB [vI x, vI y, vI z, vS 1 L.length] 29]) (by kernel_rfl) ?_
  refine kSeq ?_
  refine cRet ?_
  exact endQ (Or.inr rfl) (l := [.bool true]) [rB [vI x, vI y, vI z, vS 0 L.length] 29, rB [vI x, vI y, vI z, vS 1 L.length] 29] (by kernel_rfl) (rfl) rfl rfl hcl rfl
end Go.Proofs.Yteohlhpdbnhbaaa.F
set_option linter.unusedVariables false
set_option linter.unusedSimpArgs false
namespace Go.Am
open Go.RowKit
theorem a3s_set : ∀ (l : List A3) (j : Nat) (c : A3), j < l.length → splice (a3s l) (j * 3) c.cs = a3s (l.set j c)
  | [], j, c, h => by simp at h
  | d :: l, 0, c, h => by simp [splice, a3s, A3.cs]
  | d :: l, j + 1, c, h => by
    have ih := a3s_set l j c (by simpa using h)
    have e : (j + 1) * 3 = (j * 3) + 1 + 1 + 1 := by omega
    have e2 : a3s (d :: l) = .int .i64 d.x :: .int .i64 d.y :: .int .i64 d.z :: a3s l := rfl
    rw [e, e2, splice_cons, splice_cons, splice_cons, ih]
    rfl
def zero3 : A3 := ⟨0, 0, 0⟩
theorem reps_zero3 (n : Nat) : reps n zero3.cs = a3s (List.replicate n zero3) := by
  unfold reps a3s
  rw [List.flatMap_def, List.map_replicate]
section
variable {P : Program} {C : Ctx P} {T : Tm} {H : Heap} {t u : TypeId} {x y : Operand}
theorem eStA3 {H' : Heap} {b o : Nat} {L : List A3} {c : A3} {e : TypeId} {bx : Bool} {j : Nat} {ti : TI} (hx : evalO T x = some (.pointer (some ⟨b, o, none⟩))) (hy : evalO T y = some (.agg #[.int .i64 c.x, .int .i64 c.y, .int .i64 c.z])) (hr : row? H b = some ⟨a3s L, e, bx, true⟩) (ho : o = j * 3)
    (hj : j < L.length) (ht : tiOf P t = some ti) (hsz : ti.size = 3) (hH : H.set b (some ⟨a3s (L.set j c), e, bx, true⟩) = H') : evOp C T H (.store t x y) = some (undef, H') := by
  simp only [evOp, hx, hy, opStore, hr, ht]
  have hc : (Value.agg #[.int .i64 c.x, .int .i64 c.y, .int .i64 c.z]).cells.toList = c.cs := rfl
  rw [hc, if_pos ⟨trivial, by simp [hsz, A3.cs], by rw [a3s_length, hsz]; omega, rfl⟩]
  rw [← hH, ho, a3s_set L j c hj]
  rfl
theorem eMkA3 {n : Nat} {e : TypeId} {s1 s2 : Nat} {z : Value} {te : TI} {k k2 : IntKind} (hx : evalO T x = some (.int k (n : Int))) (hy : evalO T y = some (.int k2 (n : Int))) (ht : tiOf P t = some ⟨.slice e, s1, s2, z⟩) (he : tiOf P e = some te) (hz : te.zero.cells.toList = zero3.cs) (hsz : te.size = 3) (hby : te.bytes ≤ 1024)
    (hn : n ≤ 1048576) : evOp C T H (.makeSlice t x y) = some (.slice (some ⟨H.length, 0, none⟩) n 0, H ++ [some ⟨a3s (List.replicate n zero3), e, false, true⟩]) := by
  simp only [evOp, hx, hy, opMake, ht, he, hz, reps_zero3, Int.toNat_natCast]
  have hb : (te.bytes : Int) * (n : Int) ≤ 140737488355328 := by
    have : te.bytes * n ≤ 1024 * 1048576 := Nat.mul_le_mul hby hn
    have h2 : (te.bytes : Int) * (n : Int) = ((te.bytes * n : Nat) : Int) := by push_cast; rfl
    rw [h2]
    omega
  rw [if_pos ⟨trivial, by omega, hb, by omega, by rw [hsz]; rfl, rfl⟩]
end
def copied (L : List A3) (j : Nat) : List A3 := L.take j ++ List.replicate (L.length - j) zero3
theorem copied_length (L : List A3) (j : Nat) (h : j ≤ L.length) : (copied L j).length = L.length := by
  simp [copied]; omega
theorem copied_set (L : List A3) (j : Nat) (h : j < L.length) : (copied L j).set j (L.getD j default) = copied L (j + 1) := by
  unfold copied
  have e : L.length - j = (L.length - (j + 1)) + 1 := by omega
  rw [e, List.replicate_succ, List.set_append_right _ _ (by simp; omega)]
  have e2 : j - (L.take j).length = 0 := by simp; omega
  rw [e2, List.set_cons_zero, List.take_succ_eq_append_getElem h, List.append_assoc, List.singleton_append, List.getD_eq_getElem?_getD, List.getElem?_eq_getElem h]
  rfl
theorem copied_all (L : List A3) : copied L L.length = L := by simp [copied]
def cmpI (a b : Int) : Int := if a < b then -1 else if b < a then 1 else 0
def lexC (a b c x y z : Int) : Int := if cmpI a x ≠ 0 then cmpI a x else if cmpI b y ≠ 0 then cmpI b y else cmpI c z
def lexB (a b c x y z : Int) : Bool := decide (a < x ∨ (a = x ∧ (b < y ∨ (b = y ∧ c < z))))
theorem lexC_neg (a b c x y z : Int) : (decide (lexC a b c x y z ≥ 0)) = !lexB a b c x y z := by
  unfold lexC lexB cmpI
  rw [Bool.eq_iff_iff]
  simp only [decide_eq_true_eq, Bool.not_eq_true', decide_eq_false_iff_not]
  repeat' split
  all_goals omega
def lex3 (p q : A3) : Bool := lexB p.x p.y p.z q.x q.y q.z
def cellOK (x y z : Int) (L : List A3) (k : Nat) : Bool := has3 x y z (L.getD k default).x (L.getD k default).y (L.getD k default).z && (decide (k = 0) || lex3 (L.getD (k - 1) default) (L.getD k default))
def okTo (x y z : Int) (L : List A3) (n : Nat) : Bool := (List.range n).all (cellOK x y z L)
def isHeapB (x y z : Int) (L : List A3) : Bool := valid3 x y z && okTo x y z L L.length
theorem okTo_succ (x y z : Int) (L : List A3) (n : Nat) : okTo x y z L (n + 1) = (okTo x y z L n && cellOK x y z L n) := by
  simp [okTo, List.range_succ]
theorem okTo_false {x y z : Int} {L : List A3} {n : Nat} (h : n < L.length) (hc : cellOK x y z L n = false) : okTo x y z L L.length = false := by
  unfold okTo
  rw [List.all_eq_false]
  exact ⟨n, List.mem_range.2 h, by simp [hc]⟩
end Go.Am
namespace Go.Am
theorem valid_bounds {x y z : Int} (h : valid3 x y z = true) : (1 ≤ x ∧ x ≤ 4) ∧ (1 ≤ y ∧ y ≤ 4) ∧ (1 ≤ z ∧ z ≤ 4) := by
  simp only [valid3, inR, Bool.and_eq_true, decide_eq_true_eq] at h
  omega
section
open Go.RowKit
variable {P : Program} {C : Ctx P} {T : Tm} {H : Heap} {t u : TypeId} {x y : Operand} {b : Bool}
end
theorem okTo_step {x y z : Int} {L : List A3} {i : Nat} (ho : okTo x y z L i = true) (h1 : has3 x y z (L.getD i default).x (L.getD i default).y (L.getD i default).z = true)
    (h2 : i = 0 ∨ lexB (L.getD (i - 1) default).x (L.getD (i - 1) default).y (L.getD (i - 1) default).z (L.getD i default).x (L.getD i default).y (L.getD i default).z = true) : okTo x y z L (i + 1) = true := by
  rw [okTo_succ, ho, cellOK, h1]
  rcases h2 with h | h
  · simp [h]
  · have h' : lex3 (L.getD (i - 1) default) (L.getD i default) = true := h
    rw [h']; simp
theorem notHeap1 {x y z : Int} {L : List A3} {i : Nat} (hi : i < L.length) (h1 : has3 x y z (L.getD i default).x (L.getD i default).y (L.getD i default).z = false) : false = isHeapB x y z L := by
  rw [isHeapB, okTo_false hi (by rw [cellOK, h1]; rfl), Bool.and_false]
theorem notHeap2 {x y z : Int} {L : List A3} {i : Nat} (hi : i < L.length) (h0 : i ≠ 0)
    (h2 : lexB (L.getD (i - 1) default).x (L.getD (i - 1) default).y (L.getD (i - 1) default).z (L.getD i default).x (L.getD i default).y (L.getD i default).z = false) : false = isHeapB x y z L := by
  rw [isHeapB, okTo_false hi (by rw [cellOK, lex3, h2]; simp [h0]), Bool.and_false]
theorem notHeap0 {x y z : Int} {L : List A3} (h : valid3 x y z = false) : false = isHeapB x y z L := by rw [isHeapB, h, Bool.false_and]
theorem heapYes {x y z : Int} {L : List A3} {i : Nat} (h : valid3 x y z = true) (ho : okTo x y z L i = true) (hi : i = L.length) : true = isHeapB x y z L := by
  subst hi
  rw [isHeapB, h, ho]; rfl
end Go.Am
set_option linter.unusedVariables false
set_option linter.unusedSimpArgs false
namespace Go.Proofs.Yteohlhpdbnhbaaa.F
open Go.Am Go.RowKit
set_option maxRecDepth 100000 in
set_option maxHeartbeats 4000000 in
theorem isNaN_ok (a : Int) : Sound Try.prog 36 [vI a] [] (.bool false) [] := by
  refine sound_intro (C := cx) Try.func36 rfl (by kernel_rfl) fun hcl => ?_
  refine cSeq ?_
  refine cReg ?_
  refine segEnd [0, 2] (T1 := (mkT 6 [(0, vI a), (2, .bool false)])) (H1 := []) (by kernel_rfl) ?_
  refine kSeq ?_
  refine cSeq ?_
  refine cReg ?_
  refine seg 2 (T1 := (mkT 6 [(0, vI a), (2, .bool false), (3, vI a), (4, vI a)])) (H1 := []) (by kernel_rfl) ?_
  refine rOp (v := .bool false) (H' := []) (by kernel_rfl) (eNeS (k := .i64) (a := a) (by kernel_rfl) (by kernel_rfl)) ?_
  refine segEnd [0, 2] (T1 := (mkT 6 [(0, vI a), (2, .bool false)])) (H1 := []) (by kernel_rfl) ?_
  refine kSeq ?_
  refine cRet ?_
  exact endQ (Or.inr rfl) (l := [.bool false]) [] (by kernel_rfl) (rfl) rfl rfl hcl rfl
set_option maxRecDepth 100000 in
set_option maxHeartbeats 4000000 in
theorem cmp_ok (a b : Int) : Sound Try.prog 35 [vI a, vI b] [] (vI (cmpI a b)) [] := by
  refine sound_intro (C := cx) Try.func35 rfl (by kernel_rfl) fun hcl => ?_
  refine cSeq ?_
  refine cReg ?_
  refine segEnd [0, 1, 4] (T1 := (mkT 20 [(0, vI a), (1, vI b), (4, vI 0)])) (H1 := []) (by kernel_rfl) ?_
  refine kSeq ?_
  refine cSeq ?_
  refine cReg ?_
  refine seg 1 (T1 := (mkT 20 [(0, vI a), (1, vI b), (4, vI 0), (7, vI a)])) (H1 := []) (by kernel_rfl) ?_
  refine rCall (v := .bool false) (H' := []) (args := [vI a]) (by kernel_rfl) rfl (by kernel_rfl) ((isNaN_ok a).flat rfl rfl _) ?_
  refine segEnd [0, 1, 4, 5] (T1 := (mkT 20 [(0, vI a), (1, vI b), (4, vI 0), (5, .bool false)])) (H1 := []) (by kernel_rfl) ?_
  refine kSeq ?_
  refine cSeq ?_
  refine cReg ?_
  refine seg 1 (T1 := (mkT 20 [(0, vI a), (1, vI b), (4, vI 0), (5, .bool false), (9, vI b)])) (H1 := []) (by kernel_rfl) ?_
  refine rCall (v := .bool false) (H' := []) (args := [vI b]) (by kernel_rfl) rfl (by kernel_rfl) ((isNaN_ok b).flat rfl rfl _) ?_
  refine segEnd [0, 1, 4, 5, 6] (T1 := (mkT 20 [(0, vI a), (1, vI b), (4, vI 0), (5, .bool false), (6, .bool false)])) (H1 := []) (by kernel_rfl) ?_
  refine kSeq ?_
  refine cSeq ?_
  refine cSeq ?_
  refine cReg ?_
  refine segEnd [0, 1, 4, 5, 6, 11] (T1 := (mkT 20 [(0, vI a), (1, vI b), (4, vI 0), (5, .bool false), (6, .bool false), (11, .bool false)])) (H1 := []) (by kernel_rfl) ?_
  refine kSeq ?_
  refine cFalse (by kernel_rfl) ?_
  refine cSkip ?_
  refine kSeq ?_
  refine cSeq ?_
  refine cSeq ?_
  refine cReg ?_
  refine segEnd [0, 1, 4, 5, 6, 11, 13] (T1 := (mkT 20 [(0, vI a), (1, vI b), (4, vI 0), (5, .bool false), (6, .bool false), (11, .bool false), (13, .bool false)])) (H1 := []) (by kernel_rfl) ?_
  refine kSeq ?_
  refine cFalse (by kernel_rfl) ?_
  refine cSkip ?_
  refine kSeq ?_
  refine cSeq ?_
  refine cSeq ?_
  refine cReg ?_
  refine segEnd [0, 1, 4, 5, 6, 11, 13, 16] (T1 := (mkT 20 [(0, vI a), (1, vI b), (4, vI 0), (5, .bool false), (6, .bool false), (11, .bool false), (13, .bool false), (16, .bool (decide (a < b)))])) (H1 := []) (by kernel_rfl) ?_
  refine kSeq ?_
  cases h1 : (decide (a < b) : Bool)
  ·
    (try simp only [Bool.not_eq_true', Bool.not_eq_false', decide_eq_true_eq, decide_eq_false_iff_not, beq_iff_eq, bne_iff_ne, beq_eq_false_iff_ne, bne_eq_false_iff_eq, ne_eq, Decidable.not_not, Bool.and_eq_true, Bool.and_eq_false_imp, Bool.or_eq_true, Bool.or_eq_false_iff, Bool.not_eq_true, Int.not_lt, Int.not_le, ge_iff_le, gt_iff_lt] at h1)
    refine cFalse (by kernel_rfl) ?_
    refine cSkip ?_
    refine kSeq ?_
    refine cSeq ?_
    refine cSeq ?_
    refine cReg ?_
    refine segEnd [0, 1, 4, 5, 6, 11, 13, 16, 19] (T1 := (mkT 20 [(0, vI a), (1, vI b), (4, vI 0), (5, .bool false), (6, .bool false), (11, .bool false), (13, .bool false), (16, .bool false), (19, .bool (decide (a > b)))])) (H1 := []) (by kernel_rfl) ?_
    refine kSeq ?_
    cases h2 : (decide (a > b) : Bool)
    ·
      (try simp only [Bool.not_eq_true', Bool.not_eq_false', decide_eq_true_eq, decide_eq_false_iff_not, beq_iff_eq, bne_iff_ne, beq_eq_false_iff_ne, bne_eq_false_iff_eq, ne_eq, Decidable.not_not, Bool.and_eq_true, Bool.and_eq_false_imp, Bool.or_eq_true, Bool.or_eq_false_iff, Bool.not_eq_true, Int.not_lt, Int.not_le, ge_iff_le, gt_iff_lt] at h2)
      refine cFalse (by kernel_rfl) ?_
      refine cSkip ?_
      refine kSeq ?_
      refine cSeq ?_
      refine cReg ?_
      refine segEnd [0, 1, 4, 5, 6, 11, 13, 16, 19] (T1 := (mkT 20 [(0, vI a), (1, vI b), (4, vI 0), (5, .bool false), (6, .bool false), (11, .bool false), (13, .bool false), (16, .bool false), (19, .bool false)])) (H1 := []) (by kernel_rfl) ?_
      refine kSeq ?_
      refine cRet ?_
      exact endQ (Or.inr rfl) (l := [vI 0]) [] (by kernel_rfl) (congrArg (Value.int .i64) (by unfold cmpI; repeat' split <;> omega)) rfl rfl hcl rfl
    ·
      (try simp only [Bool.not_eq_true', Bool.not_eq_false', decide_eq_true_eq, decide_eq_false_iff_not, beq_iff_eq, bne_iff_ne, beq_eq_false_iff_ne, bne_eq_false_iff_eq, ne_eq, Decidable.not_not, Bool.and_eq_true, Bool.and_eq_false_imp, Bool.or_eq_true, Bool.or_eq_false_iff, Bool.not_eq_true, Int.not_lt, Int.not_le, ge_iff_le, gt_iff_lt] at h2)
      refine cTrue (by kernel_rfl) ?_
      refine cSeq ?_
      refine cReg ?_
      refine segEnd [0, 1, 4, 5, 6, 11, 13, 16, 19] (T1 := (mkT 20 [(0, vI a), (1, vI b), (4, vI 1), (5, .bool false), (6, .bool false), (11, .bool false), (13, .bool false), (16, .bool false), (19, .bool true)])) (H1 := []) (by kernel_rfl) ?_
      refine kSeq ?_
      refine cRet ?_
      refine kSeqR ?_
      exact endQ (Or.inr rfl) (l := [vI 1]) [] (by kernel_rfl) (congrArg (Value.int .i64) (by unfold cmpI; repeat' split <;> omega)) rfl rfl hcl rfl
  ·
    (try simp only [Bool.not_eq_true', Bool.not_eq_false', decide_eq_true_eq, decide_eq_false_iff_not, beq_iff_eq, bne_iff_ne, beq_eq_false_iff_ne, bne_eq_false_iff_eq, ne_eq, Decidable.not_not, Bool.and_eq_true, Bool.and_eq_false_imp, Bool.or_eq_true, Bool.or_eq_false_iff, Bool.not_eq_true, Int.not_lt, Int.not_le, ge_iff_le, gt_iff_lt] at h1)
    refine cTrue (by kernel_rfl) ?_
    refine cSeq ?_
    refine cReg ?_
    refine segEnd [0, 1, 4, 5, 6, 11, 13, 16] (T1 := (mkT 20 [(0, vI a), (1, vI b), (4, vI (-1)), (5, .bool false), (6, .bool false), (11, .bool false), (13, .bool false), (16, .bool true)])) (H1 := []) (by kernel_rfl) ?_
    refine kSeq ?_
    refine cRet ?_
    refine kSeqR ?_
    exact endQ (Or.inr rfl) (l := [vI (-1)]) [] (by kernel_rfl) (congrArg (Value.int .i64) (by unfold cmpI; repeat' split <;> omega)) rfl rfl hcl rfl
set_option maxRecDepth 100000 in
set_option maxHeartbeats 4000000 in
theorem compare_ok (a b c x y z : Int) : Sound Try.prog 34 [vS 0 3, vS 1 3] [some ⟨[vI a, vI b, vI c], 46, true, false⟩, some ⟨[vI x, vI y, vI z], 46, true, false⟩] (vI (lexC a b c x y z)) [some ⟨[vI a, vI b, vI c], 46, true, false⟩, some ⟨[vI x, vI y, vI z], 46, true, false⟩] := by
  refine sound_intro (C := cx) Try.func34 rfl (by kernel_rfl) fun hcl => ?_
  refine cSeq ?_
  refine cReg ?_
  refine segEnd [0, 1, 4] (T1 := (mkT 36 [(0, vS 0 3), (1, vS 1 3), (4, vI 0)])) (H1 := [some ⟨[vI a, vI b, vI c], 46, true, false⟩, some ⟨[vI x, vI y, vI z], 46, true, false⟩]) (by kernel_rfl) ?_
  refine kSeq ?_
  refine cSeq ?_
  refine cSeq ?_
  refine cReg ?_
  refine segEnd [0, 1, 4, 9, 10, 11] (T1 := (mkT 36 [(0, vS 0 3), (1, vS 1 3), (4, vI 0), (9, vS 0 3), (10, vI 3), (11, vI 0)])) (H1 := [some ⟨[vI a, vI b, vI c], 46, true, false⟩, some ⟨[vI x, vI y, vI z], 46, true, false⟩]) (by kernel_rfl) ?_
  refine kSeq ?_
  refine cBlk ?_
  refine cLoop (fun mm T H => ∃ i : Nat, (i ≤ 3) ∧ ((1 ≤ i → cmpI a x = 0) ∧ (2 ≤ i → cmpI b y = 0) ∧ (3 ≤ i → cmpI c z = 0)) ∧ mm = 3 - i ∧ T = (mkT 36 [(0, vS 0 3), (1, vS 1 3), (4, vI 0), (9, vS 0 3), (10, vI 3), (11, vN i)]) ∧ H = [some ⟨[vI a, vI b, vI c], 46, true, false⟩, some ⟨[vI x, vI y, vI z], 46, true, false⟩]) (3 - 0) (mkT 36 [(0, vS 0 3), (1, vS 1 3), (4, vI 0), (9, vS 0 3), (10, vI 3), (11, vI 0)]) [some ⟨[vI a, vI b, vI c], 46, true, false⟩, some ⟨[vI x, vI y, vI z], 46, true, false⟩] (wkSame [0, 1, 4, 9, 10, 11] (by kernel_rfl)) ?_ ?_
  · exact ⟨0, (Nat.zero_le _), (by omega), rfl, rfl, rfl⟩
  · rintro _ _ _ ⟨i, hi, he, rfl, rfl, rfl⟩
    have hcase : i = 0 ∨ i = 1 ∨ i = 2 ∨ i = 3 := by omega
    rcases hcase with rfl | rfl | rfl | rfl
    ·
      refine cSeq ?_
      refine cReg ?_
      refine segEnd [0, 1, 4, 9, 10, 11, 12] (T1 := (mkT 36 [(0, vS 0 3), (1, vS 1 3), (4, vI 0), (9, vS 0 3), (10, vI 3), (11, vI 0), (12, .bool true)])) (H1 := [some ⟨[vI a, vI b, vI c], 46, true, false⟩, some ⟨[vI x, vI y, vI z], 46, true, false⟩]) (by kernel_rfl) ?_
      refine kSeq ?_
      refine cSeq ?_
      refine cTrue (by kernel_rfl) ?_
      refine cSkip ?_
      refine kSeq ?_
      refine cSeq ?_
      refine cBlk ?_
      refine cSeq ?_
      refine cReg ?_
      refine segEnd [0, 1, 4, 5, 6, 9, 10, 11, 12] (T1 := (mkT 36 [(0, vS 0 3), (1, vS 1 3), (4, vI 0), (5, vI 0), (6, vI a), (9, vS 0 3), (10, vI 3), (11, vI 0), (12, .bool true)])) (H1 := [some ⟨[vI a, vI b, vI c], 46, true, false⟩, some ⟨[vI x, vI y, vI z], 46, true, false⟩]) (by kernel_rfl) ?_
      refine kSeq ?_
      refine cSeq ?_
      refine cSeq ?_
      refine cReg ?_
      refine segEnd [0, 1, 4, 5, 6, 9, 10, 11, 12, 19] (T1 := (mkT 36 [(0, vS 0 3), (1, vS 1 3), (4, vI 0), (5, vI 0), (6, vI a), (9, vS 0 3), (10, vI 3), (11, vI 0), (12, .bool true), (19, .bool false)])) (H1 := [some ⟨[vI a, vI b, vI c], 46, true, false⟩, some ⟨[vI x, vI y, vI z], 46, true, false⟩]) (by kernel_rfl) ?_
      refine kSeq ?_
      refine cFalse (by kernel_rfl) ?_
      refine cSkip ?_
      refine kSeq ?_
      refine cSeq ?_
      refine cReg ?_
      refine segEnd [0, 1, 4, 5, 6, 7, 9, 10, 11, 12, 19] (T1 := (mkT 36 [(0, vS 0 3), (1, vS 1 3), (4, vI 0), (5, vI 0), (6, vI a), (7, vI x), (9, vS 0 3), (10, vI 3), (11, vI 0), (12, .bool true), (19, .bool false)])) (H1 := [some ⟨[vI a, vI b, vI c], 46, true, false⟩, some ⟨[vI x, vI y, vI z], 46, true, false⟩]) (by kernel_rfl) ?_
      refine kSeq ?_
      refine cSeq ?_
      refine cReg ?_
      refine seg 2 (T1 := (mkT 36 [(0, vS 0 3), (1, vS 1 3), (4, vI 0), (5, vI 0), (6, vI a), (7, vI x), (9, vS 0 3), (10, vI 3), (11, vI 0), (12, .bool true), (19, .bool false), (24, vI a), (25, vI x)])) (H1 := [some ⟨[vI a, vI b, vI c], 46, true, false⟩, some ⟨[vI x, vI y, vI z], 46, true, false⟩]) (by kernel_rfl) ?_
      refine rCall (v := vI (cmpI a x)) (H' := [some ⟨[vI a, vI b, vI c], 46, true, false⟩, some ⟨[vI x, vI y, vI z], 46, true, false⟩]) (args := [vI a, vI x]) (by kernel_rfl) rfl (by kernel_rfl) ((cmp_ok a x).flat rfl rfl _) ?_
      refine segEnd [0, 1, 4, 5, 6, 7, 8, 9, 10, 11, 12, 19] (T1 := (mkT 36 [(0, vS 0 3), (1, vS 1 3), (4, vI 0), (5, vI 0), (6, vI a), (7, vI x), (8, vI (cmpI a x)), (9, vS 0 3), (10, vI 3), (11, vI 0), (12, .bool true), (19, .bool false)])) (H1 := [some ⟨[vI a, vI b, vI c], 46, true, false⟩, some ⟨[vI x, vI y, vI z], 46, true, false⟩]) (by kernel_rfl) ?_
      refine kSeq ?_
      refine cSeq ?_
      refine cReg ?_
      refine segEnd [0, 1, 4, 5, 6, 7, 8, 9, 10, 11, 12, 19, 28] (T1 := (mkT 36 [(0, vS 0 3), (1, vS 1 3), (4, vI 0), (5, vI 0), (6, vI a), (7, vI x), (8, vI (cmpI a x)), (9, vS 0 3), (10, vI 3), (11, vI 0), (12, .bool true), (19, .bool false), (28, .bool (cmpI a x != 0))])) (H1 := [some ⟨[vI a, vI b, vI c], 46, true, false⟩, some ⟨[vI x, vI y, vI z], 46, true, false⟩]) (by kernel_rfl) ?_
      refine kSeq ?_
      cases h1 : ((cmpI a x != 0) : Bool)
      ·
        (try simp only [Bool.not_eq_true', Bool.not_eq_false', decide_eq_true_eq, decide_eq_false_iff_not, beq_iff_eq, bne_iff_ne, beq_eq_false_iff_ne, bne_eq_false_iff_eq, ne_eq, Decidable.not_not, Bool.and_eq_true, Bool.and_eq_false_imp, Bool.or_eq_true, Bool.or_eq_false_iff, Bool.not_eq_true, Int.not_lt, Int.not_le, ge_iff_le, gt_iff_lt] at h1)
        refine cFalse (by kernel_rfl) ?_
        refine cSkip ?_
        refine kBlk ?_
        refine kSeq ?_
        refine cReg ?_
        refine segEnd [0, 1, 4, 5, 6, 7, 8, 9, 10, 11, 12, 19, 28] (T1 := (mkT 36 [(0, vS 0 3), (1, vS 1 3), (4, vI 0), (5, vI 0), (6, vI a), (7, vI x), (8, vI (cmpI a x)), (9, vS 0 3), (10, vI 3), (11, vI 1), (12, .bool true), (19, .bool false), (28, .bool false)])) (H1 := [some ⟨[vI a, vI b, vI c], 46, true, false⟩, some ⟨[vI x, vI y, vI z], 46, true, false⟩]) (by kernel_rfl) ?_
        exact kLoop (3 - 1) (mkT 36 [(0, vS 0 3), (1, vS 1 3), (4, vI 0), (9, vS 0 3), (10, vI 3), (11, vI 1)]) [some ⟨[vI a, vI b, vI c], 46, true, false⟩, some ⟨[vI x, vI y, vI z], 46, true, false⟩] (by omega) (wkSame [0, 1, 4, 9, 10, 11] (by kernel_rfl)) ⟨1, (by omega), (by omega), rfl, rfl, rfl⟩
      ·
        (try simp only [Bool.not_eq_true', Bool.not_eq_false', decide_eq_true_eq, decide_eq_false_iff_not, beq_iff_eq, bne_iff_ne, beq_eq_false_iff_ne, bne_eq_false_iff_eq, ne_eq, Decidable.not_not, Bool.and_eq_true, Bool.and_eq_false_imp, Bool.or_eq_true, Bool.or_eq_false_iff, Bool.not_eq_true, Int.not_lt, Int.not_le, ge_iff_le, gt_iff_lt] at h1)
        refine cTrue (by kernel_rfl) ?_
        refine cSeq ?_
        refine cReg ?_
        refine segEnd [0, 1, 4, 5, 6, 7, 8, 9, 10, 11, 12, 19, 28] (T1 := (mkT 36 [(0, vS 0 3), (1, vS 1 3), (4, vI (cmpI a x)), (5, vI 0), (6, vI a), (7, vI x), (8, vI (cmpI a x)), (9, vS 0 3), (10, vI 3), (11, vI 0), (12, .bool true), (19, .bool false), (28, .bool true)])) (H1 := [some ⟨[vI a, vI b, vI c], 46, true, false⟩, some ⟨[vI x, vI y, vI z], 46, true, false⟩]) (by kernel_rfl) ?_
        refine kSeq ?_
        refine cRet ?_
        refine kBlkR ?_
        refine kSeqR ?_
        refine kLoopR ?_
        refine kBlkR ?_
        refine kSeqR ?_
        exact endQ (Or.inr rfl) (l := [vI (cmpI a x)]) [] (by kernel_rfl) (congrArg (Value.int .i64) (by unfold lexC; repeat' split <;> omega)) rfl rfl hcl rfl
    ·
      refine cSeq ?_
      refine cReg ?_
      refine segEnd [0, 1, 4, 9, 10, 11, 12] (T1 := (mkT 36 [(0, vS 0 3), (1, vS 1 3), (4, vI 0), (9, vS 0 3), (10, vI 3), (11, vI 1), (12, .bool true)])) (H1 := [some ⟨[vI a, vI b, vI c], 46, true, false⟩, some ⟨[vI x, vI y, vI z], 46, true, false⟩]) (by kernel_rfl) ?_
      refine kSeq ?_
      refine cSeq ?_
      refine cTrue (by kernel_rfl) ?_
      refine cSkip ?_
      refine kSeq ?_
      refine cSeq ?_
      refine cBlk ?_
      refine cSeq ?_
      refine cReg ?_
      refine segEnd [0, 1, 4, 5, 6, 9, 10, 11, 12] (T1 := (mkT 36 [(0, vS 0 3), (1, vS 1 3), (4, vI 0), (5, vI 1), (6, vI b), (9, vS 0 3), (10, vI 3), (11, vI 1), (12, .bool true)])) (H1 := [some ⟨[vI a, vI b, vI c], 46, true, false⟩, some ⟨[vI x, vI y, vI z], 46, true, false⟩]) (by kernel_rfl) ?_
      refine kSeq ?_
      refine cSeq ?_
      refine cSeq ?_
      refine cReg ?_
      refine segEnd [0, 1, 4, 5, 6, 9, 10, 11, 12, 19] (T1 := (mkT 36 [(0, vS 0 3), (1, vS 1 3), (4, vI 0), (5, vI 1), (6, vI b), (9, vS 0 3), (10, vI 3), (11, vI 1), (12, .bool true), (19, .bool false)])) (H1 := [some ⟨[vI a, vI b, vI c], 46, true, false⟩, some ⟨[vI x, vI y, vI z], 46, true, false⟩]) (by kernel_rfl) ?_
      refine kSeq ?_
      refine cFalse (by kernel_rfl) ?_
      refine cSkip ?_
      refine kSeq ?_
      refine cSeq ?_
      refine cReg ?_
      refine segEnd [0, 1, 4, 5, 6, 7, 9, 10, 11, 12, 19] (T1 := (mkT 36 [(0, vS 0 3), (1, vS 1 3), (4, vI 0), (5, vI 1), (6, vI b), (7, vI y), (9, vS 0 3), (10, vI 3), (11, vI 1), (12, .bool true), (19, .bool false)])) (H1 := [some ⟨[vI a, vI b, vI c], 46, true, false⟩, some ⟨[vI x, vI y, vI z], 46, true, false⟩]) (by kernel_rfl) ?_
      refine kSeq ?_
      refine cSeq ?_
      refine cReg ?_
      refine seg 2 (T1 := (mkT 36 [(0, vS 0 3), (1, vS 1 3), (4, vI 0), (5, vI 1), (6, vI b), (7, vI y), (9, vS 0 3), (10, vI 3), (11, vI 1), (12, .bool true), (19, .bool false), (24, vI b), (25, vI y)])) (H1 := [some ⟨[vI a, vI b, vI c], 46, true, false⟩, some ⟨[vI x, vI y, vI z], 46, true, false⟩]) (by kernel_rfl) ?_
      refine rCall (v := vI (cmpI b y)) (H' := [some ⟨[vI a, vI b, vI c], 46, true, false⟩, some ⟨[vI x, vI y, vI z], 46, true, false⟩]) (args := [vI b, vI y]) (by kernel_rfl) rfl (by kernel_rfl) ((cmp_ok b y).flat rfl rfl _) ?_
      refine segEnd [0, 1, 4, 5, 6, 7, 8, 9, 10, 11, 12, 19] (T1 := (mkT 36 [(0, vS 0 3), (1, vS 1 3), (4, vI 0), (5, vI 1), (6, vI b), (7, vI y), (8, vI (cmpI b y)), (9, vS 0 3), (10, vI 3), (11, vI 1), (12, .bool true), (19, .bool false)])) (H1 := [some ⟨[vI a, vI b, vI c], 46, true, false⟩, some ⟨[vI x, vI y, vI z], 46, true, false⟩]) (by kernel_rfl) ?_
      refine kSeq ?_
      refine cSeq ?_
      refine cReg ?_
      refine segEnd [0, 1, 4, 5, 6, 7, 8, 9, 10, 11, 12, 19, 28] (T1 := (mkT 36 [(0, vS 0 3), (1, vS 1 3), (4, vI 0), (5, vI 1), (6, vI b), (7, vI y), (8, vI (cmpI b y)), (9, vS 0 3), (10, vI 3), (11, vI 1), (12, .bool true), (19, .bool false), (28, .bool (cmpI b y != 0))])) (H1 := [some ⟨[vI a, vI b, vI c], 46, true, false⟩, some ⟨[vI x, vI y, vI z], 46, true, false⟩]) (by kernel_rfl) ?_
      refine kSeq ?_
      cases h2 : ((cmpI b y != 0) : Bool)
      ·
        (try simp only [Bool.not_eq_true', Bool.not_eq_false', decide_eq_true_eq, decide_eq_false_iff_not, beq_iff_eq, bne_iff_ne, beq_eq_false_iff_ne, bne_eq_false_iff_eq, ne_eq, Decidable.not_not, Bool.and_eq_true, Bool.and_eq_false_imp, Bool.or_eq_true, Bool.or_eq_false_iff, Bool.not_eq_true, Int.not_lt, Int.not_le, ge_iff_le, gt_iff_lt] at h2)
        refine cFalse (by kernel_rfl) ?_
        refine cSkip ?_
        refine kBlk ?_
        refine kSeq ?_
        refine cReg ?_
        refine segEnd [0, 1, 4, 5, 6, 7, 8, 9, 10, 11, 12, 19, 28] (T1 := (mkT 36 [(0, vS 0 3), (1, vS 1 3), (4, vI 0), (5, vI 1), (6, vI b), (7, vI y), (8, vI (cmpI b y)), (9, vS 0 3), (10, vI 3), (11, vI 2), (12, .bool true), (19, .bool false), (28, .bool false)])) (H1 := [some ⟨[vI a, vI b, vI c], 46, true, false⟩, some ⟨[vI x, vI y, vI z], 46, true, false⟩]) (by kernel_rfl) ?_
        exact kLoop (3 - 2) (mkT 36 [(0, vS 0 3), (1, vS 1 3), (4, vI 0), (9, vS 0 3), (10, vI 3), (11, vI 2)]) [some ⟨[vI a, vI b, vI c], 46, true, false⟩, some ⟨[vI x, vI y, vI z], 46, true, false⟩] (by omega) (wkSame [0, 1, 4, 9, 10, 11] (by kernel_rfl)) ⟨2, (by omega), (by omega), rfl, rfl, rfl⟩
      ·
        (try simp only [Bool.not_eq_true', Bool.not_eq_false', decide_eq_true_eq, decide_eq_false_iff_not, beq_iff_eq, bne_iff_ne, beq_eq_false_iff_ne, bne_eq_false_iff_eq, ne_eq, Decidable.not_not, Bool.and_eq_true, Bool.and_eq_false_imp, Bool.or_eq_true, Bool.or_eq_false_iff, Bool.not_eq_true, Int.not_lt, Int.not_le, ge_iff_le, gt_iff_lt] at h2)
        refine cTrue (by kernel_rfl) ?_
        refine cSeq ?_
        refine cReg ?_
        refine segEnd [0, 1, 4, 5, 6, 7, 8, 9, 10, 11, 12, 19, 28] (T1 := (mkT 36 [(0, vS 0 3), (1, vS 1 3), (4, vI (cmpI b y)), (5, vI 1), (6, vI b), (7, vI y), (8, vI (cmpI b y)), (9, vS 0 3), (10, vI 3), (11, vI 1), (12, .bool true), (19, .bool false), (28, .bool true)])) (H1 := [some ⟨[vI a, vI b, vI c], 46, true, false⟩, some ⟨[vI x, vI y, vI z], 46, true, false⟩]) (by kernel_rfl) ?_
        refine kSeq ?_
        refine cRet ?_
        refine kBlkR ?_
        refine kSeqR ?_
        refine kLoopR ?_
        refine kBlkR ?_
        refine kSeqR ?_
        exact endQ (Or.inr rfl) (l := [vI (cmpI b y)]) [] (by kernel_rfl) (congrArg (Value.int .i64) (by unfold lexC; repeat' split <;> omega)) rfl rfl hcl rfl
    ·
      refine cSeq ?_
      refine cReg ?_
      refine segEnd [0, 1, 4, 9, 10, 11, 12] (T1 := (mkT 36 [(0, vS 0 3), (1, vS 1 3), (4, vI 0), (9, vS 0 3), (10, vI 3), (11, vI 2), (12, .bool true)])) (H1 := [some ⟨[vI a, vI b, vI c], 46, true, false⟩, some ⟨[vI x, vI y, vI z], 46, true, false⟩]) (by kernel_rfl) ?_
      refine kSeq ?_
      refine cSeq ?_
      refine cTrue (by kernel_rfl) ?_
      refine cSkip ?_
      refine kSeq ?_
      refine cSeq ?_
      refine cBlk ?_
      refine cSeq ?_
      refine cReg ?_
      refine segEnd [0, 1, 4, 5, 6, 9, 10, 11, 12] (T1 := (mkT 36 [(0, vS 0 3), (1, vS 1 3), (4, vI 0), (5, vI 2), (6, vI c), (9, vS 0 3), (10, vI 3), (11, vI 2), (12, .bool true)])) (H1 := [some ⟨[vI a, vI b, vI c], 46, true, false⟩, some ⟨[vI x, vI y, vI z], 46, true, false⟩]) (by kernel_rfl) ?_
      refine kSeq ?_
      refine cSeq ?_
      refine cSeq ?_
      refine cReg ?_
      refine segEnd [0, 1, 4, 5, 6, 9, 10, 11, 12, 19] (T1 := (mkT 36 [(0, vS 0 3), (1, vS 1 3), (4, vI 0), (5, vI 2), (6, vI c), (9, vS 0 3), (10, vI 3), (11, vI 2), (12, .bool true), (19, .bool false)])) (H1 := [some ⟨[vI a, vI b, vI c], 46, true, false⟩, some ⟨[vI x, vI y, vI z], 46, true, false⟩]) (by kernel_rfl) ?_
      refine kSeq ?_
      refine cFalse (by kernel_rfl) ?_
      refine cSkip ?_
      refine kSeq ?_
      refine cSeq ?_
      refine cReg ?_
      refine segEnd [0, 1, 4, 5, 6, 7, 9, 10, 11, 12, 19] (T1 := (mkT 36 [(0, vS 0 3), (1, vS 1 3), (4, vI 0), (5, vI 2), (6, vI c), (7, vI z), (9, vS 0 3), (10, vI 3), (11, vI 2), (12, .bool true), (19, .bool false)])) (H1 := [some ⟨[vI a, vI b, vI c], 46, true, false⟩, some ⟨[vI x, vI y, vI z], 46, true, false⟩]) (by kernel_rfl) ?_
      refine kSeq ?_
      refine cSeq ?_
      refine cReg ?_
      refine seg 2 (T1 := (mkT 36 [(0, vS 0 3), (1, vS 1 3), (4, vI 0), (5, vI 2), (6, vI c), (7, vI z), (9, vS 0 3), (10, vI 3), (11, vI 2), (12, .bool true), (19, .bool false), (24, vI c), (25, vI z)])) (H1 := [some ⟨[vI a, vI b, vI c], 46, true, false⟩, some ⟨[vI x, vI y, vI z], 46, true, false⟩]) (by kernel_rfl) ?_
      refine rCall (v := vI (cmpI c z)) (H' := [some ⟨[vI a, vI b, vI c], 46, true, false⟩, some ⟨[vI x, vI y, vI z], 46, true, false⟩]) (args := [vI c, vI z]) (by kernel_rfl) rfl (by kernel_rfl) ((cmp_ok c z).flat rfl rfl _) ?_
      refine segEnd [0, 1, 4, 5, 6, 7, 8, 9, 10, 11, 12, 19] (T1 := (mkT 36 [(0, vS 0 3), (1, vS 1 3), (4, vI 0), (5, vI 2), (6, vI c), (7, vI z), (8, vI (cmpI c z)), (9, vS 0 3), (10, vI 3), (11, vI 2), (12, .bool true), (19, .bool false)])) (H1 := [some ⟨[vI a, vI b, vI c], 46, true, false⟩, some ⟨[vI x, vI y, vI z], 46, true, false⟩]) (by kernel_rfl) ?_
      refine kSeq ?_
      refine cSeq ?_
      refine cReg ?_
      refine segEnd [0, 1, 4, 5, 6, 7, 8, 9, 10, 11, 12, 19, 28] (T1 := (mkT 36 [(0, vS 0 3), (1, vS 1 3), (4, vI 0), (5, vI 2), (6, vI c), (7, vI z), (8, vI (cmpI c z)), (9, vS 0 3), (10, vI 3), (11, vI 2), (12, .bool true), (19, .bool false), (28, .bool (cmpI c z != 0))])) (H1 := [some ⟨[vI a, vI b, vI c], 46, true, false⟩, some ⟨[vI x, vI y, vI z], 46, true, false⟩]) (by kernel_rfl) ?_
      refine kSeq ?_
      cases h3 : ((cmpI c z != 0) : Bool)
      ·
        (try simp only [Bool.not_eq_true', Bool.not_eq_false', decide_eq_true_eq, decide_eq_false_iff_not, beq_iff_eq, bne_iff_ne, beq_eq_false_iff_ne, bne_eq_false_iff_eq, ne_eq, Decidable.not_not, Bool.and_eq_true, Bool.and_eq_false_imp, Bool.or_eq_true, Bool.or_eq_false_iff, Bool.not_eq_true, Int.not_lt, Int.not_le, ge_iff_le, gt_iff_lt] at h3)
        refine cFalse (by kernel_rfl) ?_
        refine cSkip ?_
        refine kBlk ?_
        refine kSeq ?_
        refine cReg ?_
        refine segEnd [0, 1, 4, 5, 6, 7, 8, 9, 10, 11, 12, 19, 28] (T1 := (mkT 36 [(0, vS 0 3), (1, vS 1 3), (4, vI 0), (5, vI 2), (6, vI c), (7, vI z), (8, vI (cmpI c z)), (9, vS 0 3), (10, vI 3), (11, vI 3), (12, .bool true), (19, .bool false), (28, .bool false)])) (H1 := [some ⟨[vI a, vI b, vI c], 46, true, false⟩, some ⟨[vI x, vI y, vI z], 46, true, false⟩]) (by kernel_rfl) ?_
        exact kLoop (3 - 3) (mkT 36 [(0, vS 0 3), (1, vS 1 3), (4, vI 0), (9, vS 0 3), (10, vI 3), (11, vI 3)]) [some ⟨[vI a, vI b, vI c], 46, true, false⟩, some ⟨[vI x, vI y, vI z], 46, true, false⟩] (by omega) (wkSame [0, 1, 4, 9, 10, 11] (by kernel_rfl)) ⟨3, (by omega), (by omega), rfl, rfl, rfl⟩
      ·
        (try simp only [Bool.not_eq_true', Bool.not_eq_false', decide_eq_true_eq, decide_eq_false_iff_not, beq_iff_eq, bne_iff_ne, beq_eq_false_iff_ne, bne_eq_false_iff_eq, ne_eq, Decidable.not_not, Bool.and_eq_true, Bool.and_eq_false_imp, Bool.or_eq_true, Bool.or_eq_false_iff, Bool.not_eq_true, Int.not_lt, Int.not_le, ge_iff_le, gt_iff_lt] at h3)
        refine cTrue (by kernel_rfl) ?_
        refine cSeq ?_
        refine cReg ?_
        refine segEnd [0, 1, 4, 5, 6, 7, 8, 9, 10, 11, 12, 19, 28] (T1 := (mkT 36 [(0, vS 0 3), (1, vS 1 3), (4, vI (cmpI c z)), (5, vI 2), (6, vI c), (7, vI z), (8, vI (cmpI c z)), (9, vS 0 3), (10, vI 3), (11, vI 2), (12, .bool true), (19, .bool false), (28, .bool true)])) (H1 := [some ⟨[vI a, vI b, vI c], 46, true, false⟩, some ⟨[vI x, vI y, vI z], 46, true, false⟩]) (by kernel_rfl) ?_
        refine kSeq ?_
        refine cRet ?_
        refine kBlkR ?_
        refine kSeqR ?_
        refine kLoopR ?_
        refine kBlkR ?_
        refine kSeqR ?_
        exact endQ (Or.inr rfl) (l := [vI (cmpI c z)]) [] (by kernel_rfl) (congrArg (Value.int .i64) (by unfold lexC; repeat' split <;> omega)) rfl rfl hcl rfl
    ·
      refine cSeq ?_
      refine cReg ?_
      refine segEnd [0, 1, 4, 9, 10, 11, 12] (T1 := (mkT 36 [(0, vS 0 3), (1, vS 1 3), (4, vI 0), (9, vS 0 3), (10, vI 3), (11, vI 3), (12, .bool false)])) (H1 := [some ⟨[vI a, vI b, vI c], 46, true, false⟩, some ⟨[vI x, vI y, vI z], 46, true, false⟩]) (by kernel_rfl) ?_
      refine kSeq ?_
      refine cSeq ?_
      refine cFalse (by kernel_rfl) ?_
      refine cExit ?_
      refine kSeqE ?_
      refine kLoopE ?_
      refine kBlkHit ?_
      refine kSeq ?_
      refine cSeq ?_
      refine cSeq ?_
      refine cReg ?_
      refine segEnd [0, 1, 4, 9, 10, 11, 12, 35] (T1 := (mkT 36 [(0, vS 0 3), (1, vS 1 3), (4, vI 0), (9, vS 0 3), (10, vI 3), (11, vI 3), (12, .bool false), (35, .bool false)])) (H1 := [some ⟨[vI a, vI b, vI c], 46, true, false⟩, some ⟨[vI x, vI y, vI z], 46, true, false⟩]) (by kernel_rfl) ?_
      refine kSeq ?_
      refine cFalse (by kernel_rfl) ?_
      refine cSkip ?_
      refine kSeq ?_
      refine cSeq ?_
      refine cReg ?_
      refine segEnd [0, 1, 4, 9, 10, 11, 12, 35] (T1 := (mkT 36 [(0, vS 0 3), (1, vS 1 3), (4, vI 0), (9, vS 0 3), (10, vI 3), (11, vI 3), (12, .bool false), (35, .bool false)])) (H1 := [some ⟨[vI a, vI b, vI c], 46, true, false⟩, some ⟨[vI x, vI y, vI z], 46, true, false⟩]) (by kernel_rfl) ?_
      refine kSeq ?_
      refine cRet ?_
      exact endQ (Or.inr rfl) (l := [vI 0]) [] (by kernel_rfl) (congrArg (Value.int .i64) (by unfold lexC; repeat' split <;> omega)) rfl rfl hcl rfl
set_option maxRecDepth 100000 in
set_option maxHeartbeats 4000000 in
theorem compareCells_ok (a b c x y z : Int) : Sound Try.prog 30 [.agg #[vI a, vI b, vI c], .agg #[vI x, vI y, vI z]] [] (vI (lexC a b c x y z)) [] := by
  refine sound_intro (C := cx) Try.func30 rfl (by kernel_rfl) fun hcl => ?_
  refine cSeq ?_
  refine cReg ?_
  refine segEnd [0, 1, 2, 3, 4] (T1 := (mkT 8 [(0, .agg #[vI a, vI b, vI c]), (1, .agg #[vI x, vI y, vI z]), (2, vP 0 0), (3, vP 1 0), (4, vI 0)])) (H1 := [rB [vI a, vI b, vI c] 46, rB [vI x, vI y, vI z] 46]) (by kernel_rfl) ?_
  refine kSeq ?_
  refine cSeq ?_
  refine cRegD (by kernel_rfl) ?_
  refine segD 2 (T1 := (mkT 8 [(0, .agg #[vI a, vI b, vI c]), (1, .agg #[vI x, vI y, vI z]), (2, vP 0 0), (3, vP 1 0), (4, vI 0), (5, vS 0 3), (6, vS 1 3)])) (H1 := [rB [vI a, vI b, vI c] 46, rB [vI x, vI y, vI z] 46]) (by kernel_rfl) ?_
  refine rCallQ (v := vI (lexC a b c x y z)) (args := [vS 0 3, vS 1 3]) (by kernel_rfl) rfl (by kernel_rfl) (by kernel_rfl) (by kernel_rfl) (Quiet.reads2 0 1 true true (compare_ok a b c x y z) (flatRow_of rfl) (flatRow_of rfl) rfl rfl rfl rfl rfl rfl rfl rfl rfl) ?_
  refine segEndD [0, 1, 2, 3, 4] (T1 := (mkT 8 [(0, .agg #[vI a, vI b, vI c]), (1, .agg #[vI x, vI y, vI z]), (2, vP 0 0), (3, vP 1 0), (4, vI (lexC a b c x y z))])) (H1 := [rB [vI a, vI b, vI c] 46, rB [vI x, vI y, vI z] 46]) (by kernel_rfl) ?_
  refine kSeq ?_
  refine cRet ?_
  exact endQ (Or.inr rfl) (l := [vI (lexC a b c x y z)]) [rB [vI a, vI b, vI c] 46, rB [vI x, vI y, vI z] 46] (by kernel_rfl) (rfl) rfl rfl hcl rfl
set_option maxRecDepth 100000 in
set_option maxHeartbeats 4000000 in
theorem l2Before_ok (a b c x y z : Int) : Sound Try.prog 24 [.agg #[vI a, vI b, vI c], .agg #[vI x, vI y, vI z]] [] (.bool (lexB a b c x y z)) [] := by
  refine sound_intro (C := cx) Try.func24 rfl (by kernel_rfl) fun hcl => ?_
  refine cSeq ?_
  refine cReg ?_
  refine segEnd [0, 1, 2, 3, 4] (T1 := (mkT 24 [(0, .agg #[vI a, vI b, vI c]), (1, .agg #[vI x, vI y, vI z]), (2, vP 0 0), (3, vP 1 0), (4, .bool false)])) (H1 := [rB [vI a, vI b, vI c] 46, rB [vI x, vI y, vI z] 46]) (by kernel_rfl) ?_
  refine kSeq ?_
  refine cSeq ?_
  refine cSeq ?_
  refine cReg ?_
  refine segEnd [0, 1, 2, 3, 4, 5] (T1 := (mkT 24 [(0, .agg #[vI a, vI b, vI c]), (1, .agg #[vI x, vI y, vI z]), (2, vP 0 0), (3, vP 1 0), (4, .bool false), (5, vI 0)])) (H1 := [rB [vI a, vI b, vI c] 46, rB [vI x, vI y, vI z] 46]) (by kernel_rfl) ?_
  refine kSeq ?_
  refine cBlk ?_
  refine cLoop (fun mm T H => ∃ i : Nat, (i ≤ 3) ∧ ((1 ≤ i → a = x) ∧ (2 ≤ i → b = y) ∧ (3 ≤ i → c = z)) ∧ mm = 3 - i ∧ T = (mkT 24 [(2, vP 0 0), (3, vP 1 0), (4, .bool false), (5, vN i)]) ∧ H = [rB [vI a, vI b, vI c] 46, rB [vI x, vI y, vI z] 46]) (3 - 0) (mkT 24 [(2, vP 0 0), (3, vP 1 0), (4, .bool false), (5, vI 0)]) [rB [vI a, vI b, vI c] 46, rB [vI x, vI y, vI z] 46] (wkSame [2, 3, 4, 5] (by kernel_rfl)) ?_ ?_
  · exact ⟨0, (Nat.zero_le _), (by omega), rfl, rfl, rfl⟩
  · rintro _ _ _ ⟨i, hi, he, rfl, rfl, rfl⟩
    have hcase : i = 0 ∨ i = 1 ∨ i = 2 ∨ i = 3 := by omega
    rcases hcase with rfl | rfl | rfl | rfl
    ·
      refine cSeq ?_
      refine cSeq ?_
      refine cReg ?_
      refine segEnd [2, 3, 4, 5, 7] (T1 := (mkT 24 [(2, vP 0 0), (3, vP 1 0), (4, .bool false), (5, vI 0), (7, .bool true)])) (H1 := [rB [vI a, vI b, vI c] 46, rB [vI x, vI y, vI z] 46]) (by kernel_rfl) ?_
      refine kSeq ?_
      refine cTrue (by kernel_rfl) ?_
      refine cSkip ?_
      refine kSeq ?_
      refine cSeq ?_
      refine cBlk ?_
      refine cSeq ?_
      refine cRegD (by kernel_rfl) ?_
      refine segEndD [2, 3, 4, 5, 7, 16] (T1 := (mkT 24 [(2, vP 0 0), (3, vP 1 0), (4, .bool false), (5, vI 0), (7, .bool true), (16, .bool (a != x))])) (H1 := [rB [vI a, vI b, vI c] 46, rB [vI x, vI y, vI z] 46]) (by kernel_rfl) ?_
      refine kSeq ?_
      cases h1 : ((a != x) : Bool)
      ·
        (try simp only [Bool.not_eq_true', Bool.not_eq_false', decide_eq_true_eq, decide_eq_false_iff_not, beq_iff_eq, bne_iff_ne, beq_eq_false_iff_ne, bne_eq_false_iff_eq, ne_eq, Decidable.not_not, Bool.and_eq_true, Bool.and_eq_false_imp, Bool.or_eq_true, Bool.or_eq_false_iff, Bool.not_eq_true, Int.not_lt, Int.not_le, ge_iff_le, gt_iff_lt] at h1)
        refine cFalse (by kernel_rfl) ?_
        refine cSkip ?_
        refine kBlk ?_
        refine kSeq ?_
        refine cReg ?_
        refine segEnd [2, 3, 4, 5, 7, 16] (T1 := (mkT 24 [(2, vP 0 0), (3, vP 1 0), (4, .bool false), (5, vI 1), (7, .bool true), (16, .bool false)])) (H1 := [rB [vI a, vI b, vI c] 46, rB [vI x, vI y, vI z] 46]) (by kernel_rfl) ?_
        exact kLoop (3 - 1) (mkT 24 [(2, vP 0 0), (3, vP 1 0), (4, .bool false), (5, vI 1)]) [rB [vI a, vI b, vI c] 46, rB [vI x, vI y, vI z] 46] (by omega) (wkSame [2, 3, 4, 5] (by kernel_rfl)) ⟨1, (by omega), (by omega), rfl, rfl, rfl⟩
      ·
        (try simp only [Bool.not_eq_true', Bool.not_eq_false', decide_eq_true_eq, decide_eq_false_iff_not, beq_iff_eq, bne_iff_ne, beq_eq_false_iff_ne, bne_eq_false_iff_eq, ne_eq, Decidable.not_not, Bool.and_eq_true, Bool.and_eq_false_imp, Bool.or_eq_true, Bool.or_eq_false_iff, Bool.not_eq_true, Int.not_lt, Int.not_le, ge_iff_le, gt_iff_lt] at h1)
        refine cTrue (by kernel_rfl) ?_
        refine cSeq ?_
        refine cRegD (by kernel_rfl) ?_
        refine segEndD [2, 3, 4, 5, 7, 16] (T1 := (mkT 24 [(2, vP 0 0), (3, vP 1 0), (4, .bool (decide (a < x))), (5, vI 0), (7, .bool true), (16, .bool true)])) (H1 := [rB [vI a, vI b, vI c] 46, rB [vI x, vI y, vI z] 46]) (by kernel_rfl) ?_
        refine kSeq ?_
        refine cRet ?_
        refine kBlkR ?_
        refine kSeqR ?_
        refine kLoopR ?_
        refine kBlkR ?_
        refine kSeqR ?_
        exact endQ (Or.inr rfl) (l := [.bool (decide (a < x))]) [rB [vI a, vI b, vI c] 46, rB [vI x, vI y, vI z] 46] (by kernel_rfl) (congrArg Value.bool (Bool.eq_iff_iff.2 (by simp only [lexB, decide_eq_true_eq, Bool.false_eq_true, Bool.true_eq, true_iff, false_iff]; omega))) rfl rfl hcl rfl
    ·
      refine cSeq ?_
      refine cSeq ?_
      refine cReg ?_
      refine segEnd [2, 3, 4, 5, 7] (T1 := (mkT 24 [(2, vP 0 0), (3, vP 1 0), (4, .bool false), (5, vI 1), (7, .bool true)])) (H1 := [rB [vI a, vI b, vI c] 46, rB [vI x, vI y, vI z] 46]) (by kernel_rfl) ?_
      refine kSeq ?_
      refine cTrue (by kernel_rfl) ?_
      refine cSkip ?_
      refine kSeq ?_
      refine cSeq ?_
      refine cBlk ?_
      refine cSeq ?_
      refine cRegD (by kernel_rfl) ?_
      refine segEndD [2, 3, 4, 5, 7, 16] (T1 := (mkT 24 [(2, vP 0 0), (3, vP 1 0), (4, .bool false), (5, vI 1), (7, .bool true), (16, .bool (b != y))])) (H1 := [rB [vI a, vI b, vI c] 46, rB [vI x, vI y, vI z] 46]) (by kernel_rfl) ?_
      refine kSeq ?_
      cases h2 : ((b != y) : Bool)
      ·
        (try simp only [Bool.not_eq_true', Bool.not_eq_false', decide_eq_true_eq, decide_eq_false_iff_not, beq_iff_eq, bne_iff_ne, beq_eq_false_iff_ne, bne_eq_false_iff_eq, ne_eq, Decidable.not_not, Bool.and_eq_true, Bool.and_eq_false_imp, Bool.or_eq_true, Bool.or_eq_false_iff, Bool.not_eq_true, Int.not_lt, Int.not_le, ge_iff_le, gt_iff_lt] at h2)
        refine cFalse (by kernel_rfl) ?_
        refine cSkip ?_
        refine kBlk ?_
        refine kSeq ?_
        refine cReg ?_
        refine segEnd [2, 3, 4, 5, 7, 16] (T1 := (mkT 24 [(2, vP 0 0), (3, vP 1 0), (4, .bool false), (5, vI 2), (7, .bool true), (16, .bool false)])) (H1 := [rB [vI a, vI b, vI c] 46, rB [vI x, vI y, vI z] 46]) (by kernel_rfl) ?_
        exact kLoop (3 - 2) (mkT 24 [(2, vP 0 0), (3, vP 1 0), (4, .bool false), (5, vI 2)]) [rB [vI a, vI b, vI c] 46, rB [vI x, vI y, vI z] 46] (by omega) (wkSame [2, 3, 4, 5] (by kernel_rfl)) ⟨2, (by omega), (by omega), rfl, rfl, rfl⟩
      ·
        (try simp only [Bool.not_eq_true', Bool.not_eq_false', decide_eq_true_eq, decide_eq_false_iff_not, beq_iff_eq, bne_iff_ne, beq_eq_false_iff_ne, bne_eq_false_iff_eq, ne_eq, Decidable.not_not, Bool.and_eq_true, Bool.and_eq_false_imp, Bool.or_eq_true, Bool.or_eq_false_iff, Bool.not_eq_true, Int.not_lt, Int.not_le, ge_iff_le, gt_iff_lt] at h2)
        refine cTrue (by kernel_rfl) ?_
        refine cSeq ?_
        refine cRegD (by kernel_rfl) ?_
        refine segEndD [2, 3, 4, 5, 7, 16] (T1 := (mkT 24 [(2, vP 0 0), (3, vP 1 0), (4, .bool (decide (b < y))), (5, vI 1), (7, .bool true), (16, .bool true)])) (H1 := [rB [vI a, vI b, vI c] 46, rB [vI x, vI y, vI z] 46]) (by kernel_rfl) ?_
        refine kSeq ?_
        refine cRet ?_
        refine kBlkR ?_
        refine kSeqR ?_
        refine kLoopR ?_
        refine kBlkR ?_
        refine kSeqR ?_
        exact endQ (Or.inr rfl) (l := [.bool (decide (b < y))]) [rB [vI a, vI b, vI c] 46, rB [vI x, vI y, vI z] 46] (by kernel_rfl) (congrArg Value.bool (Bool.eq_iff_iff.2 (by simp only [lexB, decide_eq_true_eq, Bool.false_eq_true, Bool.true_eq, true_iff, false_iff]; omega))) rfl rfl hcl rfl
    ·
      refine cSeq ?_
      refine cSeq ?_
      refine cReg ?_
      refine segEnd [2, 3, 4, 5, 7] (T1 := (mkT 24 [(2, vP 0 0), (3, vP 1 0), (4, .bool false), (5, vI 2), (7, .bool true)])) (H1 := [rB [vI a, vI b, vI c] 46, rB [vI x, vI y, vI z] 46]) (by kernel_rfl) ?_
      refine kSeq ?_
      refine cTrue (by kernel_rfl) ?_
      refine cSkip ?_
      refine kSeq ?_
      refine cSeq ?_
      refine cBlk ?_
      refine cSeq ?_
      refine cRegD (by kernel_rfl) ?_
      refine segEndD [2, 3, 4, 5, 7, 16] (T1 := (mkT 24 [(2, vP 0 0), (3, vP 1 0), (4, .bool false), (5, vI 2), (7, .bool true), (16, .bool (c != z))])) (H1 := [rB [vI a, vI b, vI c] 46, rB [vI x, vI y, vI z] 46]) (by kernel_rfl) ?_
      refine kSeq ?_
      cases h3 : ((c != z) : Bool)
      ·
        (try simp only [Bool.not_eq_true', Bool.not_eq_false', decide_eq_true_eq, decide_eq_false_iff_not, beq_iff_eq, bne_iff_ne, beq_eq_false_iff_ne, bne_eq_false_iff_eq, ne_eq, Decidable.not_not, Bool.and_eq_true, Bool.and_eq_false_imp, Bool.or_eq_true, Bool.or_eq_false_iff, Bool.not_eq_true, Int.not_lt, Int.not_le, ge_iff_le, gt_iff_lt] at h3)
        refine cFalse (by kernel_rfl) ?_
        refine cSkip ?_
        refine kBlk ?_
        refine kSeq ?_
        refine cReg ?_
        refine segEnd [2, 3, 4, 5, 7, 16] (T1 := (mkT 24 [(2, vP 0 0), (3, vP 1 0), (4, .bool false), (5, vI 3), (7, .bool true), (16, .bool false)])) (H1 := [rB [vI a, vI b, vI c] 46, rB [vI x, vI y, vI z] 46]) (by kernel_rfl) ?_
        exact kLoop (3 - 3) (mkT 24 [(2, vP 0 0), (3, vP 1 0), (4, .bool false), (5, vI 3)]) [rB [vI a, vI b, vI c] 46, rB [vI x, vI y, vI z] 46] (by omega) (wkSame [2, 3, 4, 5] (by kernel_rfl)) ⟨3, (by omega), (by omega), rfl, rfl, rfl⟩
      ·
        (try simp only [Bool.not_eq_true', Bool.not_eq_false', decide_eq_true_eq, decide_eq_false_iff_not, beq_iff_eq, bne_iff_ne, beq_eq_false_iff_ne, bne_eq_false_iff_eq, ne_eq, Decidable.not_not, Bool.and_eq_true, Bool.and_eq_false_imp, Bool.or_eq_true, Bool.or_eq_false_iff, Bool.not_eq_true, Int.not_lt, Int.not_le, ge_iff_le, gt_iff_lt] at h3)
        refine cTrue (by kernel_rfl) ?_
        refine cSeq ?_
        refine cRegD (by kernel_rfl) ?_
        refine segEndD [2, 3, 4, 5, 7, 16] (T1 := (mkT 24 [(2, vP 0 0), (3, vP 1 0), (4, .bool (decide (c < z))), (5, vI 2), (7, .bool true), (16, .bool true)])) (H1 := [rB [vI a, vI b, vI c] 46, rB [vI x, vI y, vI z] 46]) (by kernel_rfl) ?_
        refine kSeq ?_
        refine cRet ?_
        refine kBlkR ?_
        refine kSeqR ?_
        refine kLoopR ?_
        refine kBlkR ?_
        refine kSeqR ?_
        exact endQ (Or.inr rfl) (l := [.bool (decide (c < z))]) [rB [vI a, vI b, vI c] 46, rB [vI x, vI y, vI z] 46] (by kernel_rfl) (congrArg Value.bool (Bool.eq_iff_iff.2 (by simp only [lexB, decide_eq_true_eq, Bool.false_eq_true, Bool.true_eq, true_iff, false_iff]; omega))) rfl rfl hcl rfl
    ·
      refine cSeq ?_
      refine cSeq ?_
      refine cReg ?_
      refine segEnd [2, 3, 4, 5, 7] (T1 := (mkT 24 [(2, vP 0 0), (3, vP 1 0), (4, .bool false), (5, vI 3), (7, .bool false)])) (H1 := [rB [vI a, vI b, vI c] 46, rB [vI x, vI y, vI z] 46]) (by kernel_rfl) ?_
      refine kSeq ?_
      refine cFalse (by kernel_rfl) ?_
      refine cExit ?_
      refine kSeqE ?_
      refine kLoopE ?_
      refine kBlkHit ?_
      refine kSeq ?_
      refine cSeq ?_
      refine cReg ?_
      refine segEnd [2, 3, 4, 5, 7] (T1 := (mkT 24 [(2, vP 0 0), (3, vP 1 0), (4, .bool false), (5, vI 3), (7, .bool false)])) (H1 := [rB [vI a, vI b, vI c] 46, rB [vI x, vI y, vI z] 46]) (by kernel_rfl) ?_
      refine kSeq ?_
      refine cRet ?_
      exact endQ (Or.inr rfl) (l := [.bool false]) [rB [vI a, vI b, vI c] 46, rB [vI x, vI y, vI z] 46] (by kernel_rfl) (congrArg Value.bool (Bool.eq_iff_iff.2 (by simp only [lexB, decide_eq_true_eq, Bool.false_eq_true, Bool.true_eq, true_iff, false_iff]; omega))) rfl rfl hcl rfl
end Go.Proofs.Yteohlhpdbnhbaaa.F
