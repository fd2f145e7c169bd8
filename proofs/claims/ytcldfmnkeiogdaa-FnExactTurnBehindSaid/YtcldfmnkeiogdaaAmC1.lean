import Derived.Test.YtcldfmnkeiogdaaAmC0
import Derived.Test.YtcldfmnkeiogdaaRows
set_option linter.unusedVariables false
set_option linter.unusedSimpArgs false
namespace Go.Am
open Go.RowKit
theorem draw_any {P : Program} {C : Ctx P} {ops : Array Oper} {T0 : Tm} {vs : Nat → Value} {Hs : Nat → Heap} {ρ0 : Ren} {H0 : Heap} {w0 : World} {Q : Exit → Act → World → Prop} (dr : DRun C ops T0 vs Hs)
    (hQ : ∀ ρ a w, Inv P ρ0 H0 w0 ρ (TD ops.toList 0 vs (fun k => decide (k < ops.toList.length)) T0) (Hs ops.toList.length) a w → Q .normal a w) :
    ∀ (fuel : Nat) (listed : Array Bool) (ρ : Ren) (m : Nat) (a : Act) (w : World), listed.toList.count false = fuel → DInv C ops T0 vs Hs ρ0 H0 w0 listed ρ m a w → wpAny P .any ops Q fuel listed a w := by
  have fin : ∀ (listed : Array Bool) (ρ : Ren) (m : Nat) (a : Act) (w : World), DInv C ops T0 vs Hs ρ0 H0 w0 listed ρ m a w → Region.ready .any ops listed = [] → Q .normal a w := by
    intro listed ρ m a w h hr
    have all : ∀ i, i < ops.size → Lst listed i := by
      intro i
      induction i using Nat.strongRecOn with
      | _ i ih =>
        intro hi
        have ho : ops[i]? = some ops[i] := Array.getElem?_eq_getElem hi
        have hil : i < listed.size := by rw [h.size]; exact hi
        by_cases hl : Lst listed i
        · exact hl
        · exfalso
          have : i ∈ Region.ready .any ops listed := mem_ready.2 ⟨by
            unfold Lst at hl
            simp only [Array.getD_eq_getD_getElem?, Array.getElem?_eq_getElem hil, Option.getD_some] at hl ⊢
            simpa using hl, _, ho, fun e he hb => ih e.on (dr.edge ho e he hb) (Nat.lt_trans (dr.edge ho e he hb) hi)⟩
          rw [hr] at this
          cases this
    have hH : Hs ops.toList.length = Hs m := by
      rw [Array.length_toList]
      obtain ⟨d, hd⟩ : ∃ d, ops.size = m + d := ⟨ops.size - m, by have := h.mle; omega⟩
      rw [hd]
      refine dr.span m d (by omega) fun k ok h1 h2 hk hkn => ?_
      have := (h.ns k ok hk hkn).1 (all k (by omega))
      omega
    have hT : ∀ t : Nat, (TD ops.toList 0 vs (fun k => decide (k < ops.toList.length)) T0)[t]? = (TD ops.toList 0 vs (fun k => listed.getD k false) T0)[t]? := fun t =>
      TD_same _ _ _ _ _ _ _ t rfl rfl fun i o hi _ => by
        have hlt : i < ops.toList.length := lt_of_some hi
        have := all i (by simpa using hlt)
        unfold Lst at this
        rw [Nat.zero_add, this]
        simpa using hlt
    refine hQ ρ a w ⟨by rw [hH]; exact h.adv, ⟨?_, fun t v hv => ?_, fun t v hv => ?_⟩, h.df⟩
    · rw [h.rt.size, TD_length, TD_length]
    · rw [hT] at hv; exact h.rt.at_ t v hv
    · rw [hT] at hv; rw [hH]; exact h.rt.cl t v hv
  intro fuel
  induction fuel with
  | zero =>
    intro listed ρ m a w hc h
    have hr : Region.ready .any ops listed = [] := by
      cases hrr : Region.ready .any ops listed with
      | nil => rfl
      | cons j js =>
        have hj : j ∈ Region.ready .any ops listed := by rw [hrr]; simp
        obtain ⟨hun, o, ho, hall⟩ := mem_ready.1 hj
        have hjl : j < listed.size := by rw [h.size]; exact (Array.getElem?_eq_some_iff.1 ho).1
        have : false ∈ listed.toList := by
          refine List.mem_of_getElem? (i := j) ?_
          simp only [Array.getD_eq_getD_getElem?, Array.getElem?_eq_getElem hjl, Option.getD_some] at hun
          simp [hjl, hun]
        have := List.count_pos_iff.2 this
        omega
    exact ⟨hr, fin listed ρ m a w h hr⟩
  | succ fuel ih =>
    intro listed ρ m a w hc h
    refine ⟨fin listed ρ m a w h, fun j hj => ?_⟩
    obtain ⟨hun, o, ho, hall⟩ := mem_ready.1 hj
    have hjl : j < listed.size := by rw [h.size]; exact (Array.getElem?_eq_some_iff.1 ho).1
    refine h.go dr hj fun ρ' m' a' w' h' => ih _ ρ' m' a' w' ?_ h'
    have := count_set (l := listed.toList) (i := j) (by
      simp only [Array.getD_eq_getD_getElem?, Array.getElem?_eq_getElem hjl, Option.getD_some] at hun
      simp [hjl, hun])
    simp only [Array.toList_setIfInBounds]
    omega
theorem draw_sound {P : Program} {C : Ctx P} {ops : Array Oper} {id : Nat} {ρ0 ρ : Ren} {H0 H : Heap} {w0 w : World} {T : Tm} {a : Act} {K : Exit → Tm → Heap → Prop}
    (hOK : regionOK C ops = true) (hs : sOpsD C ops ops.toList T H (K .normal)) (hi : Inv P ρ0 H0 w0 ρ T H a w) : (Code.region id ops true).wp P (Post P ρ0 H0 w0 K) a w := by
  obtain ⟨vs, Hs, h0, h1, h2⟩ := run_of _ _ _ hs
  have dr : DRun C ops T vs Hs := ⟨hOK, fun i o hi => h1 i o (by simpa using hi)⟩
  refine wp_region_any C.mixed ?_
  have hdrew := adv_drew hi.adv.rep { w with drawn := w.drawn + 1 } rfl rfl rfl rfl
  refine draw_any (ρ0 := ρ0) (H0 := H0) (w0 := w0) dr (fun ρ' a' w' h => ⟨ρ', _, _, h2, h⟩) ops.size _ ρ 0 a _ ?_ ?_
  · simp
  · have none' : ∀ (l : List Oper) (k : Nat) (T : Tm), TD l k vs (fun k => (Array.replicate ops.size false).getD k false) T = T := by
      intro l
      induction l with
      | nil => intro k T; rfl
      | cons a l ih =>
        intro k T
        rw [TD, if_neg, ih]
        simp [Array.getElem?_replicate]
        split <;> simp
    have nol : ∀ i, ¬ Lst (Array.replicate ops.size false) i := by
      intro i h
      unfold Lst at h
      simp only [Array.getD_eq_getD_getElem?, Array.getElem?_replicate] at h
      split at h <;> simp at h
    refine ⟨by simp, fun j o ho hl => absurd hl (nol j), Nat.zero_le _, fun i o ho hn => ⟨fun hl => absurd hl (nol i), fun h => absurd h (by omega)⟩, by rw [h0]; exact hi.adv.trans hdrew, fun i hi' => ?_, ?_, hi.df⟩
    · have : i = 0 := by omega
      rw [this, h0]
      exact hi.adv.rep.cl
    · rw [none', h0]
      exact hi.rt
def renRow (σ : Nat → Nat) (r : Row) : Row := { r with cells := r.cells.map (mpS (renId σ)) }
structure RenOK (n : Nat) (H : Heap) (σ : Nat → Nat) (H' : Heap) : Prop where
  low : ∀ i, i < n → σ i = i
  len : n ≤ H'.length
  row : ∀ (i : Nat) (r : Row), H'[i]? = some (some r) → H[σ i]? = some (some (renRow σ r))
  inj : ∀ (i j : Nat) (r s : Row), H'[i]? = some (some r) → H'[j]? = some (some s) → σ i = σ j → i = j
  cl : Closed H'
theorem adv_ren {P : Program} {ρ0 ρ : Ren} {H0 H H' : Heap} {w0 w : World} {σ : Nat → Nat} (h : Adv P ρ0 H0 w0 ρ H w) (r : RenOK H0.length H σ H') : Adv P ρ0 H0 w0 (fun i => ρ (σ i)) H' w := by
  refine ⟨fun i hi => by rw [r.low i hi]; exact h.agree i hi, r.len, ⟨fun i s hi => ?_, fun i j s t hi hj hs ht hij => ?_, r.cl⟩, h.os, h.tape, h.output, h.size, h.frame, fun i s hi hs => ?_⟩
  · obtain ⟨⟨cur, e, fz, hb, hcu, hwr, hlen⟩, hsc⟩ := h.rep.row _ _ (r.row i s hi)
    refine ⟨⟨cur, e, fz, hb, fun j v hv => ?_, hwr, fun hbx => by have := hlen hbx; simpa [renRow] using this⟩, fun v hv => ?_⟩
    · have := hcu j (mpS (renId σ) v) (by simp [renRow, hv])
      rw [this, mapS, mpS_ren]
    · have := hsc (mpS (renId σ) v) (by simp only [renRow]; exact List.mem_map_of_mem hv)
      rwa [scal_mpS] at this
  · refine h.rep.sep (σ i) (σ j) _ _ (r.row i s hi) (r.row j t hj) hs ?_ (fun e => hij (r.inj i j s t hi hj e))
    rcases ht with ht | ht
    · exact Or.inl ht
    · exact Or.inr (by simpa [renRow] using ht)
  · exact h.fresh (σ i) _ (r.row i s hi) hs
structure Wk (n : Nat) (T : Tm) (H : Heap) (T' : Tm) (H' : Heap) : Prop where
  ex : ∃ σ : Nat → Nat, RenOK n H σ H' ∧ T'.length = T.length ∧ ∀ (t : Nat) (v : Value), T'[t]? = some (some v) → T[t]? = some (some (mpV (renId σ) v)) ∧ ∀ i ∈ idsV v, i < H'.length
theorem Wk.inv {P : Program} {ρ0 ρ : Ren} {H0 H H' : Heap} {w0 w : World} {T T' : Tm} {a : Act} (h : Inv P ρ0 H0 w0 ρ T H a w) (k : Wk H0.length T H T' H') : ∃ ρ', Inv P ρ0 H0 w0 ρ' T' H' a w := by
  obtain ⟨σ, hr, hl, ht⟩ := k.ex
  refine ⟨fun i => ρ (σ i), adv_ren h.adv hr, ⟨by rw [h.rt.size, hl], fun t v hv => ?_, fun t v hv => (ht t v hv).2⟩, h.df⟩
  rw [h.rt.at_ t _ (ht t v hv).1, mapV, mpV_ren]
def SubT (T' T : Tm) : Prop := T'.length = T.length ∧ ∀ (t : Nat) (v : Value), T'[t]? = some (some v) → T[t]? = some (some v)
theorem Inv.sub {P : Program} {ρ0 ρ : Ren} {H0 H : Heap} {w0 w : World} {T T' : Tm} {a : Act} (h : Inv P ρ0 H0 w0 ρ T H a w) (k : SubT T' T) : Inv P ρ0 H0 w0 ρ T' H a w :=
  ⟨h.adv, ⟨by rw [h.rt.size, k.1], fun t v hv => h.rt.at_ t v (k.2 t v hv), fun t v hv => h.rt.cl t v (k.2 t v hv)⟩, h.df⟩
def Less (K : Exit → Tm → Heap → Prop) : Exit → Tm → Heap → Prop := fun e T H => ∃ T1, SubT T1 T ∧ K e T1 H
theorem Less.post {P : Program} {ρ0 : Ren} {H0 : Heap} {w0 : World} {K : Exit → Tm → Heap → Prop} {e : Exit} {a : Act} {w : World} (h : Post P ρ0 H0 w0 (Less K) e a w) : Post P ρ0 H0 w0 K e a w := by
  obtain ⟨ρ, T, H, ⟨T1, hs, hk⟩, hi⟩ := h
  exact ⟨ρ, T1, H, hk, hi.sub hs⟩
theorem adv_drop {P : Program} {ρ0 ρ : Ren} {H0 H' E : Heap} {w0 w : World} (h : Adv P ρ0 H0 w0 ρ (H' ++ E) w) (hn : H0.length ≤ H'.length) (hc : Closed H') : Adv P ρ0 H0 w0 ρ H' w := by
  have hsub : ∀ (i : Nat) (r : Row), H'[i]? = some (some r) → (H' ++ E)[i]? = some (some r) := fun i r hi => by rw [List.getElem?_append_left (lt_of_some hi)]; exact hi
  exact ⟨h.agree, hn, ⟨fun i r hi => h.rep.row i r (hsub i r hi), fun i j r s hi hj => h.rep.sep i j r s (hsub i r hi) (hsub j s hj), hc⟩, h.os, h.tape, h.output, h.size, h.frame, fun i r hi hr => h.fresh i r (hsub i r hi) hr⟩
def WkAny (n : Nat) (T : Tm) (H : Heap) (T' : Tm) (H' : Heap) : Prop :=
  (SubT T' T ∧ H' = H) ∨ (SubT T' T ∧ (∃ E, H = H' ++ E) ∧ n ≤ H'.length ∧ Closed H' ∧ ∀ (t : Nat) (v : Value), T'[t]? = some (some v) → ∀ i ∈ idsV v, i < H'.length) ∨ Wk n T H T' H'
theorem WkAny.inv {P : Program} {ρ0 ρ : Ren} {H0 H H' : Heap} {w0 w : World} {T T' : Tm} {a : Act} (h : Inv P ρ0 H0 w0 ρ T H a w) (k : WkAny H0.length T H T' H') : ∃ ρ', Inv P ρ0 H0 w0 ρ' T' H' a w := by
  rcases k with ⟨hs, rfl⟩ | ⟨hs, ⟨E, rfl⟩, hn, hc, hi⟩ | k
  · exact ⟨ρ, h.sub hs⟩
  · exact ⟨ρ, adv_drop h.adv hn hc, ⟨(h.sub hs).rt.size, (h.sub hs).rt.at_, hi⟩, h.df⟩
  · exact k.inv h
def seqK (f : Tm → Heap → Prop) (K : Exit → Tm → Heap → Prop) : Exit → Tm → Heap → Prop
  | .normal, T, H => f T H
  | e, T, H => K e T H
def blkK (id : Nat) (K : Exit → Tm → Heap → Prop) : Exit → Tm → Heap → Prop
  | .exit i, T, H => if i = id then K .normal T H else K (.exit i) T H
  | e, T, H => K e T H
def loopK (n : Nat) (I : Nat → Tm → Heap → Prop) (m : Nat) (K : Exit → Tm → Heap → Prop) : Exit → Tm → Heap → Prop
  | .normal, T, H => ∃ m' T1 H1, m' < m ∧ WkAny n T H T1 H1 ∧ I m' T1 H1
  | e, T, H => K e T H
def sC {P : Program} (C : Ctx P) (n : Nat) : Code → Tm → Heap → (Exit → Tm → Heap → Prop) → Prop
  | .skip, T, H, K => K .normal T H
  | .region _ ops false, T, H, K => sOps C ops ops.toList T H (Less K .normal)
  | .region id ops true, T, H, K => (regionOK C ops = true ∧ sOpsD C ops ops.toList T H (Less K .normal)) ∨ ∀ (ρ0 ρ : Ren) (H0 : Heap) (w0 w : World) (a : Act), H0.length = n → Inv P ρ0 H0 w0 ρ T H a w → (Code.region id ops true).wp P (Post P ρ0 H0 w0 (Less K)) a w
  | .seq a b, T, H, K => sC C n a T H (seqK (fun T' H' => sC C n b T' H' K) K)
  | .cond c a b, T, H, K => ∃ t, evalO T c = some (.bool t) ∧ (t = true → sC C n a T H K) ∧ (t = false → sC C n b T H K)
  | .block id c, T, H, K => sC C n c T H (blkK id K)
  | .loop c, T, H, K => ∃ (I : Nat → Tm → Heap → Prop) (m : Nat) (T1 : Tm) (H1 : Heap), WkAny n T H T1 H1 ∧ I m T1 H1 ∧ ∀ m T H, I m T H → sC C n c T H (loopK n I m K)
  | .exit id, T, H, K => K (.exit id) T H
  | .ret, T, H, K => K .ret T H
  | _, _, _, _ => False
theorem sC_sound {P : Program} {C : Ctx P} {ρ0 : Ren} {H0 : Heap} {w0 : World} : ∀ (c : Code) (K : Exit → Tm → Heap → Prop) (ρ : Ren) (T : Tm) (H : Heap) (a : Act) (w : World),
    Inv P ρ0 H0 w0 ρ T H a w → sC C H0.length c T H K → c.wp P (Post P ρ0 H0 w0 K) a w
  | .skip, K, ρ, T, H, a, w, hi, hs => wp_skip ⟨ρ, T, H, hs, hi⟩
  | .region id ops d, K, ρ, T, H, a, w, hi, hs => by
    cases d with
    | false => exact wp_mono (wp_region_list (sOps_sound (K := Less K) ops.toList ρ T H a w hi hs)) fun _ _ _ h => Less.post h
    | true =>
      rcases hs with hs | hs
      · exact wp_mono (draw_sound (K := Less K) hs.1 hs.2 hi) fun _ _ _ h => Less.post h
      · exact wp_mono (hs _ _ _ _ _ _ rfl hi) fun _ _ _ h => Less.post h
  | .seq x y, K, ρ, T, H, a, w, hi, hs => by
    refine wp_seq (wp_mono (sC_sound x _ ρ T H a w hi hs) ?_)
    intro e a' w' ⟨ρ', T', H', hk, hi'⟩
    cases e with
    | normal => exact sC_sound y K ρ' T' H' a' w' hi' hk
    | _ => exact ⟨ρ', T', H', hk, hi'⟩
  | .cond c x y, K, ρ, T, H, a, w, hi, hs => by
    obtain ⟨t, hc, h1, h2⟩ := hs
    have he := (evalO_sound hi.rt hc).1
    have hb : mapV ρ (.bool t) = .bool t := rfl
    rw [hb] at he
    cases t with
    | true => exact wp_cond_true he (sC_sound x K ρ T H a w hi (h1 rfl))
    | false => exact wp_cond_false he (sC_sound y K ρ T H a w hi (h2 rfl))
  | .block id c, K, ρ, T, H, a, w, hi, hs => by
    refine wp_block (wp_mono (sC_sound c _ ρ T H a w hi hs) ?_)
    intro e a' w' ⟨ρ', T', H', hk, hi'⟩
    cases e with
    | exit i =>
      simp only [blkK] at hk
      simp only [Exit.inBlock]
      split at hk
      · rename_i h; rw [if_pos h]; exact ⟨ρ', T', H', hk, hi'⟩
      · rename_i h; rw [if_neg h]; exact ⟨ρ', T', H', hk, hi'⟩
    | _ => exact ⟨ρ', T', H', hk, hi'⟩
  | .loop c, K, ρ, T, H, a, w, hi, hs => by
    obtain ⟨I, m, T1, H1, hw, hI, hround⟩ := hs
    obtain ⟨ρ1, hi1⟩ := hw.inv hi
    refine wp_loop_ghost (fun m a w => ∃ ρ T H, I m T H ∧ Inv P ρ0 H0 w0 ρ T H a w) m ⟨ρ1, T1, H1, hI, hi1⟩ ?_
    rintro m a w ⟨ρ, T, H, hI, hi⟩
    refine wp_mono (sC_sound c _ ρ T H a w hi (hround m T H hI)) ?_
    intro e a' w' ⟨ρ', T', H', hk, hi'⟩
    cases e with
    | normal =>
      obtain ⟨m', T2, H2, hlt, hw2, hI2⟩ := hk
      obtain ⟨ρ2, hi2⟩ := hw2.inv hi'
      exact ⟨m', hlt, ρ2, T2, H2, hI2, hi2⟩
    | _ => exact ⟨ρ', T', H', hk, hi'⟩
  | .exit id, K, ρ, T, H, a, w, hi, hs => wp_exit ⟨ρ, T, H, hs, hi⟩
  | .ret, K, ρ, T, H, a, w, hi, hs => wp_ret ⟨ρ, T, H, hs, hi⟩
  | .rangeFunc .., _, _, _, _, _, _, _, hs => hs.elim
  | .scope _, _, _, _, _, _, _, _, hs => hs.elim
  | .label _, _, _, _, _, _, _, _, hs => hs.elim
  | .goto _, _, _, _, _, _, _, _, hs => hs.elim
  | .refuse _, _, _, _, _, _, _, _, hs => hs.elim
def isTup : Value → Bool
  | .tuple _ => true
  | _ => false
theorem notTup {v : Value} (h : isTup v = false) (m : Mp) : mpV m v = mpA m v ∧ idsV v = idsA v := by
  cases v <;> first | exact ⟨rfl, rfl⟩ | cases h
def resOf (P : Program) (T : Tm) (H : Heap) : List ResultVar → Option (List Value)
  | [] => some []
  | .tmp t :: r => match getT T t, resOf P T H r with
    | some v, some l => if isTup v = true then none else some (v :: l)
    | _, _ => none
  | .cell x t :: r => match getT T x, resOf P T H r with
    | some a, some l => (opLoad P H t a).map fun v => v :: l
    | _, _ => none
def packR : List Value → Value
  | [v] => v
  | l => .tuple l.toArray
theorem resOf_sound {P : Program} {ρ : Ren} {T : Tm} {H : Heap} {w : World} {a : Act} (hr : Rep P ρ H w) (ht : RT ρ H.length T a) : ∀ {rs : List ResultVar} {l : List Value}, resOf P T H rs = some l →
    (rs.mapM (fun r => match r with
      | .tmp t => pure (a.tmps.getD t undef)
      | .cell x t => do loadVar t (← asAddr (a.tmps.getD x undef)) : ResultVar → Sem Value)).run P w = .ok (l.map (mapA ρ)) w ∧ ∀ v ∈ l, isTup v = false ∧ ∀ i ∈ idsV v, i < H.length
  | [], l, h => by simp [resOf] at h; subst h; simp
  | .tmp t :: r, l, h => by
    simp only [resOf] at h
    cases hv : getT T t with
    | none => rw [hv] at h; simp at h
    | some v =>
      cases hl : resOf P T H r with
      | none => rw [hv, hl] at h; simp at h
      | some l' =>
        rw [hv, hl] at h
        simp only at h
        split at h
        · cases h
        · rename_i hnt
          simp only [Option.some.injEq] at h
          subst h
          obtain ⟨h1, h2⟩ := resOf_sound hr ht hl
          have hat := ht.at_ t _ (getT_some hv)
          have hnt' : isTup v = false := by simpa using hnt
          have hm := (notTup hnt' (toReal ρ)).1
          refine ⟨?_, fun u hu => ?_⟩
          · simp only [List.mapM_cons, Sem.run_bind, Sem.run_pure, Result.andThen_ok, h1, Array.getD_eq_getD_getElem?, hat, Option.getD_some, List.map_cons]
            simp only [Array.getD_eq_getD_getElem?] at h1
            rw [h1, mapV, hm]
            rfl
          · rcases List.mem_cons.1 hu with rfl | hu
            · exact ⟨hnt', ht.cl t _ (getT_some hv)⟩
            · exact h2 u hu
  | .cell x t :: r, l, h => by
    simp only [resOf] at h
    cases hv : getT T x with
    | none => rw [hv] at h; simp at h
    | some v =>
      cases hl : resOf P T H r with
      | none => rw [hv, hl] at h; simp at h
      | some l' =>
        rw [hv, hl] at h
        simp only at h
        cases ho : opLoad P H t v with
        | none => rw [ho] at h; cases h
        | some u =>
          rw [ho] at h
          simp only [Option.map_some, Option.some.injEq] at h
          subst h
          obtain ⟨h1, h2⟩ := resOf_sound hr ht hl
          have hat := ht.at_ x _ (getT_some hv)
          obtain ⟨⟨ad, rfl, hrun⟩, hcl, hnt⟩ := opLoad_run hr ho
          have hnt' : isTup u = false := by cases u <;> first | rfl | exact absurd rfl (hnt _)
          have hm := (notTup hnt' (toReal ρ)).1
          have haddr : mapV ρ (.pointer (some ad)) = .pointer (some ⟨(ρ ad.block).blk, (ρ ad.block).off + ad.off, none⟩) := rfl
          rw [haddr] at hat
          refine ⟨?_, fun y hy => ?_⟩
          · have hone : (do loadVar t (← asAddr (a.tmps.getD x undef)) : Sem Value).run P w = .ok (mapV ρ u) w := by
              simp [hat, asAddr, hrun]
            rw [List.mapM_cons, Sem.run_bind]
            simp only
            rw [hone]
            simp only [Result.andThen_ok]
            rw [Sem.run_bind, h1]
            simp only [Result.andThen_ok, Sem.run_pure, List.map_cons]
            rw [mapV, hm]
          · rcases List.mem_cons.1 hy with rfl | hy
            · exact ⟨hnt', hcl⟩
            · exact h2 y hy
theorem packR_sound {P : Program} {fn : Func} {ρ : Ren} {T : Tm} {H : Heap} {w : World} {a : Act} (hr : Rep P ρ H w) (ht : RT ρ H.length T a) {l : List Value} (h : resOf P T H fn.results.toList = some l) :
    (results fn a.tmps).run P w = .ok (mapV ρ (packR l)) w ∧ ∀ i ∈ idsV (packR l), i < H.length := by
  obtain ⟨h1, h2⟩ := resOf_sound hr ht h
  have h3 : (fn.results.mapM (fun r => match r with
      | .tmp t => pure (a.tmps.getD t undef)
      | .cell x t => do loadVar t (← asAddr (a.tmps.getD x undef)) : ResultVar → Sem Value)).run P w = .ok (l.map (mapA ρ)).toArray w := by
    rw [Array.mapM_eq_mapM_toList]
    simp only [Sem.run_map, h1, Result.andThen_ok]
  refine ⟨?_, ?_⟩
  · unfold results
    simp only [Sem.run_bind]
    erw [h3]
    simp only [Result.andThen_ok, Sem.run_pure]
    match l, h2 with
    | [], _ => simp [packR, mapV, mpV]
    | [v], h2 =>
      have := notTup (h2 v (by simp)).1 (toReal ρ)
      simp only [packR, mapV, this.1]
      rfl
    | u :: v :: r, _ =>
      rw [dif_neg (by simp)]
      simp [packR, mapV, mpV]
  · match l, h2 with
    | [], _ => simp [packR, idsV]
    | [v], h2 => exact (h2 v (by simp)).2
    | u :: v :: r, h2 =>
      intro i hi
      simp only [packR, idsV, List.mem_flatMap] at hi
      obtain ⟨x, hx, hi⟩ := hi
      have hx' : x ∈ u :: v :: r := by simpa using hx
      have := notTup (h2 x hx').1 (toReal (fun _ => ⟨0, 0, 0⟩))
      exact (h2 x hx').2 i (by rw [this.2]; exact hi)
def Ends (P : Program) (fn : Func) (n : Nat) (v : Value) (H' : Heap) (e : Exit) (T : Tm) (H : Heap) : Prop :=
  (e = .normal ∨ e = .ret) ∧ ((∃ l σ, resOf P T H fn.results.toList = some l ∧ packR l = mpV (renId σ) v ∧ RenOK n H σ H' ∧ ∀ i ∈ idsV v, i < H'.length) ∨
    ∃ l E, resOf P T H fn.results.toList = some l ∧ packR l = v ∧ H = H' ++ E ∧ n ≤ H'.length ∧ (E = [] ∨ Closed H') ∧ ∀ i ∈ idsV v, i < H'.length)
theorem sound_intro {P : Program} {C : Ctx P} {f : FuncId} {fn : Func} {c : Code} {args : List Value} {H H' : Heap} {v : Value} (hf : P.funcs[f]? = some fn) (hb : fn.body = some c) (hn : (fn.name == "runtime.NumGoroutine") = false)
    (h : Closed H → sC C H.length c (args.map some ++ List.replicate (fn.ntmps - args.length) (some undef)) H (Ends P fn H.length v H')) : Sound P f args H v H' := by
  refine ⟨⟨fn, hf, hn, by rw [hb]; rfl⟩, fun ρ w hr ha => ?_⟩
  refine calls_of_wp hf hb (wp_mono (sC_sound (ρ0 := ρ) (H0 := H) (w0 := w) c _ ρ _ H _ w ⟨Adv.refl hr, ⟨?_, fun t u hu => ?_, fun t u hu => ?_⟩, rfl⟩ (h hr.cl)) ?_)
  · simp
  · rcases Nat.lt_or_ge t args.length with hlt | hge
    · rw [List.getElem?_append_left (by simpa using hlt), List.getElem?_map] at hu
      rw [Array.getElem?_append_left (by simpa using hlt)]
      cases hx : args[t]? with
      | none => rw [hx] at hu; cases hu
      | some y =>
        rw [hx] at hu
        simp only [Option.map_some, Option.some.injEq] at hu
        subst hu
        simp [hx]
    · rw [List.getElem?_append_right (by simpa using hge), List.getElem?_replicate] at hu
      split at hu
      · rename_i hlt
        simp only [Option.some.injEq] at hu
        subst hu
        rw [Array.getElem?_append_right (by simpa using hge), Array.getElem?_replicate]
        simp only [List.length_map] at hlt
        simp only [List.size_toArray, List.length_map]
        rw [if_pos hlt]
        simp [undef, mapV, mpV]
      · cases hu
  · rcases Nat.lt_or_ge t args.length with hlt | hge
    · rw [List.getElem?_append_left (by simpa using hlt), List.getElem?_map] at hu
      cases hx : args[t]? with
      | none => rw [hx] at hu; cases hu
      | some y =>
        rw [hx] at hu
        simp only [Option.map_some, Option.some.injEq] at hu
        subst hu
        exact ha y (List.mem_of_getElem? hx)
    · rw [List.getElem?_append_right (by simpa using hge), List.getElem?_replicate] at hu
      split at hu
      · simp only [Option.some.injEq] at hu
        subst hu
        simp [undef, idsV]
      · cases hu
  · intro e a' w' ⟨ρ', T', H1, ⟨he, hor⟩, hi⟩
    have hfin : a'.defers = [] ∧ ∃ u, (results fn a'.tmps).run P w' = .ok u w' ∧ (∃ ρ'', Ending.returned u = .returned (mapV ρ'' v) ∧ Adv P ρ H w ρ'' H' w' ∧ ∀ i ∈ idsV v, i < H'.length) := by
      rcases hor with ⟨l, σ, hres, hpk, hren, hv⟩ | ⟨l, E, hres, hpk, rfl, hn, hc, hv⟩
      · obtain ⟨hrun, hcl⟩ := packR_sound (fn := fn) hi.adv.rep hi.rt hres
        exact ⟨hi.df, _, hrun, fun i => ρ' (σ i), by rw [hpk, mapV, mpV_ren], adv_ren hi.adv hren, hv⟩
      · obtain ⟨hrun, hcl⟩ := packR_sound (fn := fn) hi.adv.rep hi.rt hres
        have hc' : Closed H' := by
          rcases hc with rfl | hc
          · have := hi.adv.rep.cl
            rw [List.append_nil] at this
            exact this
          · exact hc
        exact ⟨hi.df, _, hrun, ρ', by rw [hpk], adv_drop hi.adv hn hc', hv⟩
    rcases he with rfl | rfl
    · exact hfin
    · exact hfin
end Go.Am
set_option linter.unusedVariables false
set_option linter.unusedSimpArgs false
namespace Go.Am
open Go.RowKit
def mkT (n : Nat) (l : List (Nat × Value)) : Tm := (List.range n).map fun i => l.lookup i
def keepT (ks : List Nat) (T : Tm) : Tm := mkT T.length (ks.filterMap fun i => (getT T i).map fun v => (i, v))
theorem lookup_keep {T : Tm} {j : Nat} {v : Value} : ∀ {ks : List Nat}, (ks.filterMap fun i => (getT T i).map fun v => (i, v)).lookup j = some v → getT T j = some v
  | [], h => by simp at h
  | k :: r, h => by
    simp only [List.filterMap_cons] at h
    cases hk : getT T k with
    | none => rw [hk] at h; exact lookup_keep h
    | some u =>
      rw [hk] at h
      simp only [Option.map_some, List.lookup_cons] at h
      split at h
      · rename_i hb
        have : j = k := by simpa using hb
        subst this
        simp only [Option.some.injEq] at h
        subst h
        exact hk
      · exact lookup_keep h
theorem sub_keep (ks : List Nat) (T : Tm) : SubT (keepT ks T) T := by
  refine ⟨by simp [keepT, mkT], fun t v hv => ?_⟩
  unfold keepT mkT at hv
  rw [List.getElem?_map] at hv
  cases hr : (List.range T.length)[t]? with
  | none => rw [hr] at hv; cases hv
  | some j =>
    rw [hr] at hv
    have hlt := lt_of_some hr
    rw [List.getElem?_range (by simpa using hlt)] at hr
    simp only [Option.some.injEq] at hr
    subst hr
    simp only [Option.map_some, Option.some.injEq] at hv
    exact getT_some (lookup_keep hv)
section
variable {P : Program} {C : Ctx P}
def evR (C : Ctx P) (ops : Array Oper) : Nat → List Oper → Tm → Heap → Option (Tm × Heap)
  | 0, _, T, H => some (T, H)
  | _ + 1, [], T, H => some (T, H)
  | k + 1, o :: r, T, H => match want? T ops o with
    | some true => match evOp C T H o.op with
      | some (v, H') => evR C ops k r (putT T o.dst v) H'
      | none => none
    | some false => evR C ops k r (putT T o.dst undef) H
    | none => none
theorem seg {ops : Array Oper} {K : Tm → Heap → Prop} {T1 : Tm} {H1 : Heap} : ∀ (k : Nat) {l : List Oper} {T : Tm} {H : Heap}, evR C ops k l T H = some (T1, H1) → sOps C ops (l.drop k) T1 H1 K → sOps C ops l T H K
  | 0, l, T, H, h, hk => by simp only [evR, Option.some.injEq, Prod.mk.injEq] at h; obtain ⟨rfl, rfl⟩ := h; exact hk
  | k + 1, [], T, H, h, hk => by simp only [evR, Option.some.injEq, Prod.mk.injEq] at h; obtain ⟨rfl, rfl⟩ := h; exact hk
  | k + 1, o :: r, T, H, h, hk => by
    simp only [evR] at h
    split at h
    · rename_i hw
      split at h
      · rename_i v H' he
        simp only [sOps, hw]
        exact ⟨fun _ => ⟨v, H', .op he, seg k h hk⟩, fun h => by cases h⟩
      · cases h
    · rename_i hw
      simp only [sOps, hw]
      exact ⟨fun h => (by cases h), fun _ => seg k h hk⟩
    · cases h
theorem segEnd {ops : Array Oper} {K : Exit → Tm → Heap → Prop} (ks : List Nat) {T1 : Tm} {H1 : Heap} {l : List Oper} {T : Tm} {H : Heap}
    (h : ((evR C ops l.length l T H).map fun p => (keepT ks p.1, p.2)) = some (T1, H1)) (hk : K .normal T1 H1) : sOps C ops l T H (Less K .normal) := by
  cases he : evR C ops l.length l T H with
  | none => rw [he] at h; cases h
  | some p =>
    rw [he] at h
    simp only [Option.map_some, Option.some.injEq, Prod.mk.injEq] at h
    obtain ⟨rfl, rfl⟩ := h
    refine seg l.length he ?_
    simp only [List.drop_length, sOps]
    exact ⟨_, sub_keep ks _, hk⟩
theorem rCall {ops : Array Oper} {K : Tm → Heap → Prop} {o : Oper} {r : List Oper} {T : Tm} {H H' : Heap} {v : Value} {c : Call} {f : FuncId} {args : List Value} (hw : want? T ops o = some true) (ho : o.op = .call c) (hc : calleeOf T c = some (f, args))
    (hS : Sound P f args H v H') (hk : sOps C ops r (putT T o.dst v) H' K) : sOps C ops (o :: r) T H K := by
  simp only [sOps, hw]
  exact ⟨fun _ => ⟨v, H', .call c f args ho hc hS, hk⟩, fun h => by cases h⟩
theorem evOp_slice_len {T : Tm} {H H' : Heap} {op : Op} {v : Value} (hr : isRead op = true) (h : evOp C T H op = some (v, H')) (hl : H'.length = H.length) : H' = H := by
  cases op with
  | load t x =>
    simp only [evOp, Option.bind_eq_some_iff, Option.map_eq_some_iff, Prod.mk.injEq] at h
    obtain ⟨_, _, _, _, _, rfl⟩ := h
    rfl
  | slice t x lo hi mx =>
    cases mx with
    | some m => simp [evOp] at h
    | none =>
      simp only [evOp] at h
      split at h
      · unfold opSlice at h
        repeat' split at h
        all_goals first
          | (simp only [Option.some.injEq, Prod.mk.injEq] at h; obtain ⟨_, rfl⟩ := h; rfl)
          | (simp only [Option.some.injEq, Prod.mk.injEq] at h; obtain ⟨_, rfl⟩ := h; simp at hl)
          | cases h
      · cases h
  | _ => simp [isRead] at hr
theorem evOp_new {T : Tm} {H H' : Heap} {op : Op} {v : Value} (hn : clsOf C op = .N) (h : evOp C T H op = some (v, H')) : ∃ E, H' = H ++ E := by
  unfold clsOf at hn
  split at hn
  · cases hn
  · split at hn
    · cases hn
    · split at hn
      · simp [evOp] at h
      · cases hn
      · simp only [evOp, opAlloc] at h
        repeat' split at h
        all_goals first
          | (simp only [Option.some.injEq, Prod.mk.injEq] at h; obtain ⟨_, rfl⟩ := h; exact ⟨_, rfl⟩)
          | cases h
      · simp only [evOp, opBox, Option.bind_eq_some_iff] at h
        obtain ⟨_, _, h⟩ := h
        split at h
        · simp only [Option.some.injEq, Prod.mk.injEq] at h; obtain ⟨_, rfl⟩ := h; exact ⟨_, rfl⟩
        · cases h
      · simp only [evOp, opMake] at h
        repeat' split at h
        all_goals first
          | (simp only [Option.some.injEq, Prod.mk.injEq] at h; obtain ⟨_, rfl⟩ := h; exact ⟨_, rfl⟩)
          | cases h
      · simp only [evOp, opBuildSlice, Option.bind_eq_some_iff] at h
        obtain ⟨_, _, h⟩ := h
        repeat' split at h
        all_goals first
          | (simp only [Option.map_eq_some_iff, Prod.mk.injEq] at h; obtain ⟨_, _, _, rfl⟩ := h; exact ⟨_, rfl⟩)
          | cases h
      · cases hn
theorem stepD_of {T : Tm} {H H' : Heap} {op : Op} {v : Value} (h : evOp C T H op = some (v, H')) (hq : clsOf C op = .Q → H'.length = H.length) : StepD C T H op v H' := by
  unfold StepD
  cases hc : clsOf C op with
  | P => exact h
  | S => exact .op h
  | N => obtain ⟨E, rfl⟩ := evOp_new hc h; exact ⟨E, rfl, .op h⟩
  | Q =>
    have hr : isRead op = true := by
      unfold clsOf at hc
      split at hc
      · cases hc
      · split at hc
        · assumption
        · split at hc <;> first
            | cases hc
            | skip
          all_goals simp [evOp] at h
    have := evOp_slice_len hr h (hq hc)
    subst this
    exact ⟨rfl, Or.inl ⟨hr, h⟩⟩
variable {n : Nat} {T : Tm} {H : Heap} {K : Exit → Tm → Heap → Prop}
theorem cSkip (h : K .normal T H) : sC C n .skip T H K := h
theorem cReg {id : Nat} {ops : Array Oper} (h : sOps C ops ops.toList T H (Less K .normal)) : sC C n (.region id ops false) T H K := h
theorem cSeq {a b : Code} (h : sC C n a T H (seqK (fun T' H' => sC C n b T' H' K) K)) : sC C n (.seq a b) T H K := h
theorem cTrue {c : Operand} {a b : Code} (h : evalO T c = some (.bool true)) (h1 : sC C n a T H K) : sC C n (.cond c a b) T H K := ⟨true, h, fun _ => h1, fun h => by cases h⟩
theorem cFalse {c : Operand} {a b : Code} (h : evalO T c = some (.bool false)) (h1 : sC C n b T H K) : sC C n (.cond c a b) T H K := ⟨false, h, fun h => (by cases h), fun _ => h1⟩
theorem cLoop {c : Code} (I : Nat → Tm → Heap → Prop) (m : Nat) (T1 : Tm) (H1 : Heap) (hw : WkAny n T H T1 H1) (hI : I m T1 H1) (h : ∀ m T H, I m T H → sC C n c T H (loopK n I m K)) : sC C n (.loop c) T H K := ⟨I, m, T1, H1, hw, hI, h⟩
theorem cRet (h : K .ret T H) : sC C n .ret T H K := h
theorem kSeq {f : Tm → Heap → Prop} (h : f T H) : seqK f K .normal T H := h
theorem kSeqR {f : Tm → Heap → Prop} (h : K .ret T H) : seqK f K .ret T H := h
theorem kLoop {I : Nat → Tm → Heap → Prop} {m : Nat} (m' : Nat) (T1 : Tm) (H1 : Heap) (hlt : m' < m) (hw : WkAny n T H T1 H1) (hI : I m' T1 H1) : loopK n I m K .normal T H := ⟨m', T1, H1, hlt, hw, hI⟩
end
def FlatRow (r : Row) : Prop := ∀ v ∈ r.cells, idsS v = [] ∧ ∀ m : Mp, mpS m v = v
def FlatH (H : Heap) : Prop := ∀ r, some r ∈ H → FlatRow r
theorem FlatH.nil : FlatH [] := fun r h => by simp at h
theorem FlatH.cons {r : Row} {H : Heap} (h : FlatRow r) (hH : FlatH H) : FlatH (some r :: H) := fun s hs => by
  rcases List.mem_cons.1 hs with hs | hs
  · simp only [Option.some.injEq] at hs; subst hs; exact h
  · exact hH s hs
theorem FlatH.closed {H : Heap} (h : FlatH H) : Closed H := fun i r hi v hv k hk => by
  rw [(h r (List.mem_of_getElem? hi) v hv).1] at hk
  cases hk
theorem FlatRow.ren {r : Row} (h : FlatRow r) (σ : Nat → Nat) : renRow σ r = r := by
  unfold renRow
  have : r.cells.map (mpS (renId σ)) = r.cells := by
    conv => rhs; rw [← List.map_id r.cells]
    exact List.map_congr_left fun v hv => (h v hv).2 _
  rw [this]
theorem flatRow_of {r : Row} (h : r.cells.all flat = true) : FlatRow r := fun v hv => by
  have := (List.all_eq_true.1 h) v hv
  exact ⟨idsS_flat this, fun m => mpS_flat this⟩
end Go.Am
set_option linter.unusedVariables false
set_option linter.unusedSimpArgs false
namespace Go.Am
open Go.RowKit
theorem idsP_ren (σ : Nat → Nat) (v : Value) : idsP (mpP (renId σ) v) = (idsP v).map σ := by
  cases v with
  | pointer a => cases a <;> rfl
  | slice a n c => cases a <;> rfl
  | _ => rfl
theorem flatMap_ren {f g : Value → List Nat} {m : Value → Value} {σ : Nat → Nat} (h : ∀ v, f (m v) = (g v).map σ) : ∀ l : List Value, (l.map m).flatMap f = (l.flatMap g).map σ
  | [] => rfl
  | a :: l => by simp [h, flatMap_ren h l]
theorem idsS_ren (σ : Nat → Nat) (v : Value) : idsS (mpS (renId σ) v) = (idsS v).map σ := by
  cases v with
  | func fn first cap => simp only [mpS, idsS, Array.toList_map, ← List.map_append]; exact flatMap_ren (idsP_ren σ) _
  | pointer a => cases a <;> rfl
  | slice a n c => cases a <;> rfl
  | _ => rfl
theorem idsA_ren (σ : Nat → Nat) (v : Value) : idsA (mpA (renId σ) v) = (idsA v).map σ := by
  cases v with
  | agg cs => simp only [mpA, idsA, Array.toList_map]; exact flatMap_ren (idsS_ren σ) _
  | func fn first cap => exact idsS_ren σ (.func fn first cap)
  | pointer a => cases a <;> rfl
  | slice a n c => cases a <;> rfl
  | _ => rfl
theorem idsV_ren (σ : Nat → Nat) (v : Value) : idsV (mpV (renId σ) v) = (idsV v).map σ := by
  cases v with
  | tuple cs => simp only [mpV, idsV, Array.toList_map]; exact flatMap_ren (idsA_ren σ) _
  | agg cs => exact idsA_ren σ (.agg cs)
  | func fn first cap => exact idsS_ren σ (.func fn first cap)
  | pointer a => cases a <;> rfl
  | slice a n c => cases a <;> rfl
  | _ => rfl
def shift (k n : Nat) (σ : Nat → Nat) (i : Nat) : Nat := if i < k then σ i else n + (i - k)
structure Emb (H0 H : Heap) (σ : Nat → Nat) : Prop where
  lt : ∀ i, i < H0.length → σ i < H.length
  row : ∀ (i : Nat) (r : Row), H0[i]? = some (some r) → ∃ b : Bool, (r.wr = true → b = true) ∧ H[σ i]? = some (some { renRow σ r with wr := b })
  inj : ∀ (i j : Nat) (r s : Row), H0[i]? = some (some r) → H0[j]? = some (some s) → r.wr = true → i ≠ j → σ i ≠ σ j
theorem Sound.emb {P : Program} {f : FuncId} {args0 args : List Value} {H0 E0 H E : Heap} {v0 v : Value} (σ : Nat → Nat) (hS : Sound P f args0 H0 v0 (H0 ++ E0)) (he : Emb H0 H σ) (hcl : Closed H0)
    (hE0 : ∀ r, some r ∈ E0 → r.wr = true ∨ r.cells = []) (ha0 : ∀ x ∈ args0, ∀ i ∈ idsV x, i < H0.length)
    (ha : args = args0.map (mpV (renId σ))) (hv : v = mpV (renId (shift H0.length H.length σ)) v0)
    (hE : E = E0.map (Option.map (renRow (shift H0.length H.length σ)))) : Sound P f args H v (H ++ E) := by
  subst ha hv hE
  refine ⟨hS.can, fun ρ w hr hargs => ?_⟩
  have hrow : ∀ (i : Nat) (r : Row), H0[i]? = some (some r) → RepRow P (fun i => ρ (σ i)) w (ρ (σ i)) r := by
    intro i r hi
    obtain ⟨b, hb, hHi⟩ := he.row i r hi
    obtain ⟨⟨cur, e, fz, hbk, hcu, hwr, hlen⟩, hsc⟩ := hr.row _ _ hHi
    refine ⟨⟨cur, e, fz, hbk, fun j v hv => ?_, fun hw => hwr (hb hw), fun hbx => by have := hlen hbx; simpa [renRow] using this⟩, fun v hv => ?_⟩
    · have := hcu j (mpS (renId σ) v) (by simp [renRow, hv])
      rw [this, mapS, mpS_ren]
    · have := hsc (mpS (renId σ) v) (by simp only [renRow]; exact List.mem_map_of_mem hv)
      rwa [scal_mpS] at this
  have hrep0 : Rep P (fun i => ρ (σ i)) H0 w := by
    refine ⟨hrow, fun i j r s hi hj hs ht hij => ?_, hcl⟩
    obtain ⟨b, hb, hHi⟩ := he.row i r hi
    obtain ⟨c, hc, hHj⟩ := he.row j s hj
    refine hr.sep (σ i) (σ j) _ _ hHi hHj (hb hs) ?_ (he.inj i j r s hi hj hs hij)
    rcases ht with ht | ht
    · exact Or.inl (hc ht)
    · exact Or.inr (by simpa [renRow] using ht)
  have hargs0 : (args0.map (mpV (renId σ))).map (mapV ρ) = args0.map (mapV fun i => ρ (σ i)) := by
    rw [List.map_map]
    exact List.map_congr_left fun x _ => mpV_ren ρ σ x
  rw [hargs0]
  refine (hS.run (fun i => ρ (σ i)) w hrep0 ha0).mono fun e w' hh => ?_
  obtain ⟨ρ0, rfl, ad, hvi⟩ := hh
  let τ := shift H0.length H.length σ
  let ρ' : Ren := fun i => if i < H.length then ρ i else ρ0 (H0.length + (i - H.length))
  have hτ : ∀ i, i < (H0 ++ E0).length → ρ' (τ i) = ρ0 i := by
    intro i hi
    simp only [ρ', τ, shift]
    by_cases h : i < H0.length
    · rw [if_pos h, if_pos (he.lt i h), ad.agree i h]
    · rw [if_neg h, if_neg (by omega)]
      congr 1
      omega
  have hmv : mapV ρ0 v0 = mapV ρ' (mpV (renId τ) v0) := by
    rw [mapV, mapV, mpV_ren]
    exact (mapV_agree (ρ := ρ0) (ρ' := fun i => ρ' (τ i)) fun i hi => hτ i (hvi i hi)).symm
  have hag : ∀ i, i < H.length → ρ' i = ρ i := fun i hi => by simp only [ρ', if_pos hi]
  have hnew : ∀ (k : Nat) (r : Row), (E0.map (Option.map (renRow τ)))[k]? = some (some r) → ∃ r0, E0[k]? = some (some r0) ∧ r = renRow τ r0 := by
    intro k r hk
    rw [List.getElem?_map] at hk
    cases h : E0[k]? with
    | none => rw [h] at hk; cases hk
    | some o =>
      rw [h] at hk
      cases o with
      | none => simp at hk
      | some r0 => simp at hk; exact ⟨r0, rfl, hk.symm⟩
  have hE0i : ∀ (k : Nat) (r0 : Row), E0[k]? = some (some r0) → (H0 ++ E0)[H0.length + k]? = some (some r0) := fun k r0 hk => by
    rw [List.getElem?_append_right (by omega)]; simpa using hk
  have hsplit : ∀ (i : Nat) (r : Row), (H ++ E0.map (Option.map (renRow τ)))[i]? = some (some r) → (i < H.length ∧ H[i]? = some (some r)) ∨ ∃ k r0, i = H.length + k ∧ E0[k]? = some (some r0) ∧ r = renRow τ r0 := by
    intro i r hi
    rcases Nat.lt_or_ge i H.length with h | h
    · rw [List.getElem?_append_left h] at hi; exact Or.inl ⟨h, hi⟩
    · rw [List.getElem?_append_right h] at hi
      obtain ⟨r0, h1, h2⟩ := hnew _ _ hi
      exact Or.inr ⟨i - H.length, r0, by omega, h1, h2⟩
  have hρn : ∀ k, ρ' (H.length + k) = ρ0 (H0.length + k) := fun k => by
    simp only [ρ']
    rw [if_neg (by omega)]
    congr 1
    omega
  have hmem : ∀ (k : Nat) (r0 : Row), E0[k]? = some (some r0) → some r0 ∈ E0 := fun k r0 h => List.mem_of_getElem? h
  have hold : ∀ (i : Nat) (r : Row), H[i]? = some (some r) → RepRow P ρ' w' (ρ i) r := by
    intro i r hi
    have hR := hr.row i r hi
    have hag2 : ∀ v ∈ r.cells, mapS ρ' v = mapS ρ v := fun v hv => mapS_agree fun k hk => hag k (hr.cl i r hi v hv k hk)
    by_cases hw : ∃ (j : Nat) (s : Row), H0[j]? = some (some s) ∧ s.wr = true ∧ (ρ (σ j)).blk = (ρ i).blk
    · obtain ⟨j, s, hj, hs, hb⟩ := hw
      obtain ⟨b, hbt, hHj⟩ := he.row j s hj
      have hjl := lt_of_some hj
      by_cases hij : i = σ j
      · subst hij
        rw [hi] at hHj
        simp only [Option.some.injEq] at hHj
        have hR2 := ad.rep.row j s (by rw [List.getElem?_append_left hjl]; exact hj)
        have hag3 := ad.agree j hjl
        rw [hag3] at hR2
        obtain ⟨⟨cur, e, fz, h1, h2, h3, h4⟩, h5⟩ := hR2
        subst hHj
        refine ⟨⟨cur, e, fz, h1, fun k v hv => ?_, fun _ => h3 hs, fun hx => by simpa [renRow] using h4 hx⟩, fun v hv => ?_⟩
        · simp only [renRow, List.getElem?_map] at hv
          cases hx : s.cells[k]? with
          | none => rw [hx] at hv; cases hv
          | some u =>
            rw [hx] at hv
            simp only [Option.map_some, Option.some.injEq] at hv
            subst hv
            rw [h2 k u hx]
            have hids : ∀ q ∈ idsS u, q < H0.length := fun q hq => hcl j s hj u (List.mem_of_getElem? hx) q hq
            rw [mapS, mapS, mpS_ren]
            congr 1
            refine mapS_agree fun q hq => ?_
            have := hids q hq
            rw [hag _ (he.lt q this), ad.agree q this]
        · simp only [renRow, List.mem_map] at hv
          obtain ⟨u, hu, rfl⟩ := hv
          rw [scal_mpS]; exact h5 u hu
      · have hq : ¬ (r.wr = true ∨ r.cells ≠ []) := fun hq => hr.sep (σ j) i _ r hHj hi (hbt hs) hq (fun h => hij h.symm) hb
        have hnil : r.cells = [] := Classical.byContradiction fun hn => hq (Or.inr hn)
        have hR2 := ad.rep.row j s (by rw [List.getElem?_append_left hjl]; exact hj)
        have hag3 := ad.agree j hjl
        rw [hag3] at hR2
        obtain ⟨⟨cur2, e2, fz2, hb2, _⟩, _⟩ := hR2
        obtain ⟨⟨cur, e, fz, hb1, hcu, hwr, hlen⟩, hsc⟩ := hR
        exact ⟨⟨cur2, e2, fz2, by rw [← hb]; exact hb2, (fun k v hv => by rw [hnil] at hv; simp at hv), (fun hw2 => absurd (Or.inl hw2) hq), hlen⟩, hsc⟩
    · have hfr := ad.frame _ hR.lt fun j s hj hs hb => hw ⟨j, s, hj, hs, hb⟩
      obtain ⟨⟨cur, e, fz, h1, h2, h3, h4⟩, h5⟩ := hR.world hfr
      exact ⟨⟨cur, e, fz, h1, fun k v hv => by rw [h2 k v hv, hag2 v (List.mem_of_getElem? hv)], h3, h4⟩, h5⟩
  have hnewblk : ∀ (k : Nat) (r0 : Row), E0[k]? = some (some r0) → r0.wr = true → w.heap.size ≤ (ρ0 (H0.length + k)).blk := by
    intro k r0 hk hw
    rcases ad.fresh (H0.length + k) r0 (hE0i k r0 hk) hw with h | ⟨j, s, hj, hs, hb⟩
    · exact h
    · exfalso
      have hjl := lt_of_some hj
      refine ad.rep.sep (H0.length + k) j r0 s (hE0i k r0 hk) (by rw [List.getElem?_append_left hjl]; exact hj) hw (Or.inl hs) (by omega) ?_
      rw [ad.agree j hjl]
      exact hb.symm
  refine ⟨ρ', by rw [hmv], ⟨hag, by simp, ⟨?_, ?_, ?_⟩, ad.os, ad.tape, ad.output, ad.size, ?_, ?_⟩, ?_⟩
  · intro i r hi
    rcases hsplit i r hi with ⟨h, hi'⟩ | ⟨k, r0, rfl, hk, rfl⟩
    · rw [hag i h]; exact hold i r hi'
    · rw [hρn]
      obtain ⟨⟨cur, e, fz, h1, h2, h3, h4⟩, h5⟩ := ad.rep.row _ _ (hE0i k r0 hk)
      refine ⟨⟨cur, e, fz, h1, fun j v hv => ?_, h3, fun hx => by simpa [renRow] using h4 hx⟩, fun v hv => ?_⟩
      · simp only [renRow, List.getElem?_map] at hv
        cases hx : r0.cells[j]? with
        | none => rw [hx] at hv; cases hv
        | some u =>
          rw [hx] at hv
          simp only [Option.map_some, Option.some.injEq] at hv
          subst hv
          rw [h2 j u hx, mapS, mapS, mpS_ren]
          congr 1
          exact (mapS_agree (ρ := ρ0) (ρ' := fun i => ρ' (τ i)) fun q hq => hτ q (ad.rep.cl _ _ (hE0i k r0 hk) u (List.mem_of_getElem? hx) q hq)).symm
      · simp only [renRow, List.mem_map] at hv
        obtain ⟨u, hu, rfl⟩ := hv
        rw [scal_mpS]; exact h5 u hu
  · intro i j r s hi hj hw ht hij
    rcases hsplit i r hi with ⟨h, hi'⟩ | ⟨k, r0, rfl, hk, rfl⟩
    · rcases hsplit j s hj with ⟨h2, hj'⟩ | ⟨k2, s0, rfl, hk2, rfl⟩
      · rw [hag i h, hag j h2]; exact hr.sep i j r s hi' hj' hw ht hij
      · rw [hag i h, hρn]
        have hlt := (hr.row i r hi').lt
        rcases hE0 s0 (hmem k2 s0 hk2) with hs | hs
        · have := hnewblk k2 s0 hk2 hs
          omega
        · rcases ht with ht | ht
          · have := hnewblk k2 s0 hk2 ht
            omega
          · simp [renRow, hs] at ht
    · rcases hsplit j s hj with ⟨h2, hj'⟩ | ⟨k2, s0, rfl, hk2, rfl⟩
      · rw [hag j h2, hρn]
        have hlt := (hr.row j s hj').lt
        have := hnewblk k r0 hk hw
        omega
      · rw [hρn, hρn]
        refine ad.rep.sep _ _ r0 s0 (hE0i k r0 hk) (hE0i k2 s0 hk2) hw ?_ (by omega)
        rcases ht with ht | ht
        · exact Or.inl ht
        · exact Or.inr (by simpa [renRow] using ht)
  · intro i r hi v hv q hq
    rcases hsplit i r hi with ⟨h, hi'⟩ | ⟨k, r0, rfl, hk, rfl⟩
    · have := hr.cl i r hi' v hv q hq
      simp; omega
    · simp only [renRow, List.mem_map] at hv
      obtain ⟨u, hu, rfl⟩ := hv
      rw [idsS_ren] at hq
      obtain ⟨q0, hq0, rfl⟩ := List.mem_map.1 hq
      have := ad.rep.cl _ _ (hE0i k r0 hk) u hu q0 hq0
      simp only [τ, shift, List.length_append, List.length_map] at this ⊢
      by_cases h : q0 < H0.length
      · rw [if_pos h]; have := he.lt q0 h; omega
      · rw [if_neg h]; omega
  · intro k hk hn
    refine ad.frame k hk fun j s hj hs => ?_
    obtain ⟨b, hb, hHj⟩ := he.row j s hj
    exact hn (σ j) _ hHj (hb hs)
  · intro i r hi hw
    rcases hsplit i r hi with ⟨h, hi'⟩ | ⟨k, r0, rfl, hk, rfl⟩
    · exact Or.inr ⟨i, r, hi', hw, by rw [hag i h]⟩
    · rw [hρn]
      exact Or.inl (hnewblk k r0 hk hw)
  · intro i hi
    rw [idsV_ren] at hi
    obtain ⟨q0, hq0, rfl⟩ := List.mem_map.1 hi
    have := hvi q0 hq0
    simp only [τ, shift, List.length_append, List.length_map] at this ⊢
    by_cases h : q0 < H0.length
    · rw [if_pos h]; have := he.lt q0 h; omega
    · rw [if_neg h]; omega
end Go.Am
set_option linter.unusedVariables false
set_option linter.unusedSimpArgs false
namespace Go.Am
open Go.RowKit
abbrev vI (n : Int) : Value := .int .i64 n
section
variable {P : Program} {C : Ctx P} {T : Tm} {H : Heap} {t u : TypeId} {x y : Operand} {k : IntKind} {a b c : Int}
end
structure A3 where
  x : Int
  y : Int
  z : Int
  deriving DecidableEq, Inhabited
def A3.cs (c : A3) : List Value := [.int .i64 c.x, .int .i64 c.y, .int .i64 c.z]
def A3.v (c : A3) : Value := .agg #[.int .i64 c.x, .int .i64 c.y, .int .i64 c.z]
def nums (l : List Int) : List Value := l.map (Value.int .i64)
theorem nums_all (l : List Int) : (nums l).all flat = true := by
  rw [List.all_eq_true]
  intro v hv
  simp only [nums, List.mem_map] at hv
  obtain ⟨c, _, rfl⟩ := hv
  rfl
theorem flatNums (l : List Int) (e : TypeId) (b w : Bool) : FlatRow ⟨nums l, e, b, w⟩ := flatRow_of (nums_all l)
section
variable {P : Program} {C : Ctx P} {T : Tm} {H : Heap} {t u : TypeId} {x y : Operand}
end
section
variable {P : Program} {fn : Func} {n : Nat} {v : Value} {T : Tm} {H H' : Heap}
theorem endQ {e : Exit} (he : e = .normal ∨ e = .ret) {l : List Value} (E : Heap) (hres : resOf P T H fn.results.toList = some l) (hv : packR l = v) (hE : H = H' ++ E) (hn : (decide (n ≤ H'.length)) = true) (hc : Closed H') (hi : ((idsV v).all fun i => decide (i < H'.length)) = true) :
    Ends P fn n v H' e T H := by
  refine ⟨he, Or.inr ⟨l, E, hres, hv, hE, by simpa using hn, Or.inr hc, fun i h => ?_⟩⟩
  simp only [List.all_eq_true, decide_eq_true_eq] at hi
  exact hi i h
theorem renOK_flat (σ : List Nat) (h1 : σ.map (fun i => (H[i]?).join) = H') (h2 : (σ.take n == List.range n && decide σ.Nodup && decide (n ≤ σ.length)) = true) (h3 : FlatH H') : RenOK n H (fun i => σ.getD i 0) H' := by
  simp only [Bool.and_eq_true, beq_iff_eq, decide_eq_true_eq] at h2
  obtain ⟨⟨h2a, h2b⟩, h2c⟩ := h2
  have hlen : H'.length = σ.length := by rw [← h1]; simp
  have hat : ∀ (i : Nat) (r : Row), H'[i]? = some (some r) → ∃ s, σ[i]? = some s ∧ H[s]? = some (some r) := by
    intro i r hi
    rw [← h1, List.getElem?_map] at hi
    cases hs : σ[i]? with
    | none => rw [hs] at hi; cases hi
    | some s =>
      rw [hs] at hi
      simp only [Option.map_some, Option.some.injEq] at hi
      refine ⟨s, rfl, ?_⟩
      cases hh : H[s]? with
      | none => rw [hh] at hi; cases hi
      | some o => rw [hh] at hi; simp at hi; rw [hi]
  refine ⟨fun i hi => ?_, by omega, fun i r hi => ?_, fun i j r s hi hj hij => ?_, h3.closed⟩
  · have : (σ.take n)[i]? = some i := by rw [h2a, List.getElem?_range hi]
    rw [List.getElem?_take_of_lt hi] at this
    simp [List.getD_eq_getElem?_getD, this]
  · obtain ⟨s, hs, hr⟩ := hat i r hi
    rw [(h3 r (List.mem_of_getElem? hi)).ren]
    simpa [List.getD_eq_getElem?_getD, hs] using hr
  · obtain ⟨a, ha, _⟩ := hat i r hi
    obtain ⟨b, hb, _⟩ := hat j s hj
    simp only [List.getD_eq_getElem?_getD, ha, hb, Option.getD_some] at hij
    subst hij
    have h1 := lt_of_some ha
    have h2 := lt_of_some hb
    rw [List.getElem?_eq_getElem h1] at ha
    rw [List.getElem?_eq_getElem h2] at hb
    simp only [Option.some.injEq] at ha hb
    exact (List.getElem_inj h2b).1 (ha.trans hb.symm)
def RR (H : Heap) (σ : Nat → Nat) (n i : Nat) (o : Option Row) : Prop := ∀ r, o = some r → H[σ i]? = some (some (renRow σ r)) ∧ ∀ v ∈ r.cells, ∀ k ∈ idsS v, k < n
def RRs (H : Heap) (σ : Nat → Nat) (n : Nat) : Nat → Heap → Prop
  | _, [] => True
  | i, o :: l => RR H σ n i o ∧ RRs H σ n (i + 1) l
theorem RRs.at {σ : Nat → Nat} {n : Nat} : ∀ {l : Heap} {i j : Nat} {r : Row}, RRs H σ n i l → l[j]? = some (some r) → H[σ (i + j)]? = some (some (renRow σ r)) ∧ ∀ v ∈ r.cells, ∀ k ∈ idsS v, k < n
  | [], i, j, r, _, h => by simp at h
  | o :: l, i, 0, r, h, hj => by simp at hj; exact h.1 r hj
  | o :: l, i, j + 1, r, h, hj => by
    have := RRs.at (i := i + 1) (j := j) h.2 (by simpa using hj)
    rw [show i + 1 + j = i + (j + 1) by omega] at this
    exact this
def CLs (n : Nat) : Heap → Prop
  | [] => True
  | o :: l => (∀ r, o = some r → ∀ v ∈ r.cells, ∀ k ∈ idsS v, k < n) ∧ CLs n l
theorem clF {n : Nat} {r : Row} (hf : FlatRow r) : ∀ q, some r = some q → ∀ v ∈ q.cells, ∀ k ∈ idsS v, k < n := fun q hq v hv k hk => by
  simp only [Option.some.injEq] at hq
  subst hq
  rw [(hf v hv).1] at hk; cases hk
theorem CLs.at {n : Nat} : ∀ {l : Heap} {j : Nat} {r : Row}, CLs n l → l[j]? = some (some r) → ∀ v ∈ r.cells, ∀ k ∈ idsS v, k < n
  | [], j, r, _, h => by simp at h
  | o :: l, 0, r, h, hj => by simp at hj; exact h.1 r hj
  | o :: l, j + 1, r, h, hj => CLs.at h.2 (by simpa using hj)
theorem closedL (h : CLs H'.length H') : Closed H' := fun i r hi => h.at hi
end
def fixA : Value → Bool
  | .agg cs => cs.toList.all flat
  | v => flat v
def fixV : Value → Bool
  | .tuple vs => vs.toList.all fixA
  | v => fixA v
theorem fix_flatA {v : Value} (h : flat v = true) : idsA v = [] ∧ ∀ m : Mp, mpA m v = v :=
  ⟨by rw [idsA_scal (scal_flat h), idsS_flat h], fun m => by rw [mapA_scal (scal_flat h), mpS_flat h]⟩
theorem fixA_spec {v : Value} (h : fixA v = true) : idsA v = [] ∧ ∀ m : Mp, mpA m v = v := by
  cases v with
  | agg cs =>
    simp only [fixA, List.all_eq_true] at h
    refine ⟨?_, fun m => ?_⟩
    · simp only [idsA, List.flatMap_eq_nil_iff]
      exact fun c hc => idsS_flat (h c hc)
    · simp only [mpA]
      congr 1
      conv => rhs; rw [← Array.map_id cs]
      exact Array.map_congr_left fun c hc => mpS_flat (h c (by simpa using hc))
  | _ => exact fix_flatA h
theorem fixV_spec {v : Value} (h : fixV v = true) : idsV v = [] ∧ ∀ m : Mp, mpV m v = v := by
  cases v with
  | tuple vs =>
    simp only [fixV, List.all_eq_true] at h
    refine ⟨?_, fun m => ?_⟩
    · simp only [idsV, List.flatMap_eq_nil_iff]
      exact fun c hc => (fixA_spec (h c hc)).1
    · simp only [mpV]
      congr 1
      conv => rhs; rw [← Array.map_id vs]
      exact Array.map_congr_left fun c hc => (fixA_spec (h c (by simpa using hc))).2 m
  | agg cs => exact fixA_spec (v := .agg cs) h
  | _ => exact ⟨idsV_flat h, fun m => mpV_flat h⟩
theorem emb_nil (H : Heap) (σ : Nat → Nat) : Emb [] H σ := ⟨fun i h => by simp at h, fun i r h => by simp at h, fun i j r s h => by simp at h⟩
theorem Sound.flat {P : Program} {f : FuncId} {args : List Value} {v : Value} (hS : Sound P f args [] v []) (ha : (args.all fixV) = true) (hv : fixV v = true) (H : Heap) : Sound P f args H v H := by
  have ha' := List.all_eq_true.1 ha
  have h := Sound.emb (args := args) (v := v) (E := []) (H := H) (E0 := []) id hS (emb_nil H id) (fun i r h => by simp at h) (fun r h => by simp at h)
    (fun x hx i hi => by rw [(fixV_spec (ha' x hx)).1] at hi; cases hi)
    (by conv => lhs; rw [← List.map_id args]
        exact List.map_congr_left fun x hx => ((fixV_spec (ha' x hx)).2 _).symm)
    ((fixV_spec hv).2 _).symm (by simp)
  simpa using h
theorem Quiet.flat {P : Program} {f : FuncId} {args : List Value} {v : Value} {H : Heap} (hS : Sound P f args [] v []) (ha : (args.all fixV) = true) (hv : fixV v = true) : Quiet P f args H v := fun H0 _ _ _ _ => hS.flat ha hv H0
theorem Sound.fresh {P : Program} {f : FuncId} {args : List Value} {v0 v : Value} {E : Heap} (hS : Sound P f args [] v0 E) (ha : (args.all fixV) = true) (hE : FlatH E) (hw : ∀ r, some r ∈ E → r.wr = true ∨ r.cells = []) (H : Heap)
    (hv : v = mpV (renId fun i => H.length + i) v0) : Sound P f args H v (H ++ E) := by
  have ha' := List.all_eq_true.1 ha
  have hsh : shift ([] : Heap).length H.length id = fun i => H.length + i := by funext i; simp [shift]
  refine Sound.emb (args0 := args) (v0 := v0) (E0 := E) (H0 := []) id (by simpa using hS) (emb_nil H id) (fun i r h => by simp at h) hw
    (fun x hx i hi => by rw [(fixV_spec (ha' x hx)).1] at hi; cases hi)
    (by conv => lhs; rw [← List.map_id args]
        exact List.map_congr_left fun x hx => ((fixV_spec (ha' x hx)).2 _).symm)
    (by rw [hsh]; exact hv) ?_
  conv => lhs; rw [← List.map_id E]
  refine List.map_congr_left fun o ho => ?_
  cases o with
  | none => rfl
  | some r => simp [(hE r ho).ren]
end Go.Am
set_option linter.unusedVariables false
set_option linter.unusedSimpArgs false
namespace Go.Am
open Go.RowKit
abbrev CallF := FuncId → List Value → Heap → Option (Value × Heap)
section
variable {P : Program}
def exOp (C : Ctx P) (call : CallF) (T : Tm) (H : Heap) (op : Op) : Option (Value × Heap) :=
  match op with
  | .call c => match c.callee with
    | .value _ => match calleeOf T c with
      | some (f, args) => call f args H
      | none => none
    | _ => evOp C T H op
  | _ => evOp C T H op
def exOps (C : Ctx P) (call : CallF) (ops : Array Oper) : List Oper → Tm → Heap → Option (Tm × Heap)
  | [], T, H => some (T, H)
  | o :: r, T, H => match want? T ops o with
    | some true => match exOp C call T H o.op with
      | some (v, H') => exOps C call ops r (putT T o.dst v) H'
      | none => none
    | some false => exOps C call ops r (putT T o.dst undef) H
    | none => none
def exOpsD (C : Ctx P) (call : CallF) (ops : Array Oper) : List Oper → Tm → Heap → Option (Tm × Heap)
  | [], T, H => some (T, H)
  | o :: r, T, H => match want? T ops o with
    | some true => match o.op with
      | .call ⟨.value g, ar, ts⟩ => match calleeOf T ⟨.value g, ar, ts⟩ with
        | some (f, args) => if (args.all fixV) = true ∧ clsOf C o.op = .Q then (match call f args [] with
            | some (v, []) => if fixV v = true then exOpsD C call ops r (putT T o.dst v) H else none
            | _ => none) else none
        | none => none
      | op => match evOp C T H op with
        | some (v, H') => if clsOf C op = .Q ∧ H'.length ≠ H.length then none else exOpsD C call ops r (putT T o.dst v) H'
        | none => none
    | some false => exOpsD C call ops r (putT T o.dst undef) H
    | none => none
def exLoop (body : Tm → Heap → Option (Exit × Tm × Heap)) : Nat → Tm → Heap → Option (Exit × Tm × Heap)
  | 0, _, _ => none
  | k + 1, T, H => match body T H with
    | some (.normal, T', H') => exLoop body k T' H'
    | some (e, T', H') => some (e, T', H')
    | none => none
def callX (run : CallF) : CallF := fun f args H =>
  if (args.all fixV) = true then (match run f args [] with
    | some (v, []) => if fixV v = true then some (v, H) else none
    | some (v, [some r]) => if r.wr = true ∧ r.cells.all flat = true then some (mpV (renId fun i => H.length + i) v, H ++ [some r]) else none
    | _ => none)
  else run f args H
def leave (C : Ctx P) (v : Value) (H H' : Heap) : Option (Value × Heap) :=
  if H.isEmpty = true then
    (if fixV v = true then some (v, []) else match v with
      | .slice (some ⟨j, 0, none⟩) n 0 => match row? H' j with
        | some r => if r.wr = true ∧ r.cells.all flat = true then some (.slice (some ⟨0, 0, none⟩) n 0, [some r]) else none
        | none => none
      | _ => none)
  else if ((idsV v).all fun i => decide (i < H'.length)) = true ∧ H.length ≤ H'.length then some (v, H') else none
theorem SubT.refl (T : Tm) : SubT T T := ⟨rfl, fun _ _ h => h⟩
def CallOK (P : Program) (call : CallF) : Prop := ∀ f args H v H', call f args H = some (v, H') → Sound P f args H v H'
theorem exOp_sound {C : Ctx P} {call : CallF} (hc : CallOK P call) {T : Tm} {H H' : Heap} {op : Op} {v : Value} (h : exOp C call T H op = some (v, H')) : Does C T H op v H' := by
  cases op with
  | call c =>
    unfold exOp at h
    obtain ⟨callee, args, tys⟩ := c
    cases callee with
    | value g =>
      simp only at h
      split at h
      · rename_i f ar hcl
        exact .call _ f ar rfl hcl (hc _ _ _ _ _ h)
      · cases h
    | _ => exact .op h
  | _ => exact .op h
theorem exOps_sound {C : Ctx P} {call : CallF} (hc : CallOK P call) {ops : Array Oper} {K : Tm → Heap → Prop} {T' : Tm} {H' : Heap} (hk : K T' H') : ∀ (l : List Oper) (T : Tm) (H : Heap), exOps C call ops l T H = some (T', H') → sOps C ops l T H K
  | [], T, H, h => by simp only [exOps, Option.some.injEq, Prod.mk.injEq] at h; obtain ⟨rfl, rfl⟩ := h; exact hk
  | o :: r, T, H, h => by
    simp only [exOps] at h
    split at h
    · rename_i hw
      split at h
      · rename_i v H1 he
        simp only [sOps, hw]
        exact ⟨fun _ => ⟨v, H1, exOp_sound hc he, exOps_sound hc hk r _ _ h⟩, fun h => by cases h⟩
      · cases h
    · rename_i hw
      simp only [sOps, hw]
      exact ⟨fun h => (by cases h), fun _ => exOps_sound hc hk r _ _ h⟩
    · cases h
theorem exOpsD_sound {C : Ctx P} {call : CallF} (hc : CallOK P call) {ops : Array Oper} {K : Tm → Heap → Prop} {T' : Tm} {H' : Heap} (hk : K T' H') : ∀ (l : List Oper) (T : Tm) (H : Heap), exOpsD C call ops l T H = some (T', H') → sOpsD C ops l T H K
  | [], T, H, h => by simp only [exOpsD, Option.some.injEq, Prod.mk.injEq] at h; obtain ⟨rfl, rfl⟩ := h; exact hk
  | o :: r, T, H, h => by
    simp only [exOpsD] at h
    split at h
    · rename_i hw
      simp only [sOpsD, hw]
      refine ⟨fun _ => ?_, fun h => by cases h⟩
      split at h
      · rename_i g ar ts hop
        split at h
        · rename_i f args hcl
          split at h
          · rename_i hq
            split at h
            · rename_i v hcall
              split at h
              · rename_i hv
                refine ⟨v, H, ?_, exOpsD_sound hc hk r _ _ h⟩
                unfold StepD
                rw [hq.2]
                refine ⟨rfl, Or.inr ⟨_, f, args, hop, hcl, fun H0 _ _ _ _ => (hc _ _ _ _ _ hcall).flat hq.1 hv H0, fun x hx i hi => ?_⟩⟩
                rw [(fixV_spec ((List.all_eq_true.1 hq.1) x hx)).1] at hi
                cases hi
              · cases h
            · cases h
          · cases h
        · cases h
      · split at h
        · rename_i v H1 he
          split at h
          · cases h
          · rename_i hq
            exact ⟨v, H1, stepD_of he fun hcq => Classical.byContradiction fun hn => hq ⟨hcq, hn⟩, exOpsD_sound hc hk r _ _ h⟩
        · cases h
    · rename_i hw
      simp only [sOpsD, hw]
      exact ⟨fun h => (by cases h), fun _ => exOpsD_sound hc hk r _ _ h⟩
    · cases h
theorem callX_sound {run : CallF} (hr : CallOK P run) : CallOK P (callX run) := by
  intro f args H v H' h
  unfold callX at h
  split at h
  · rename_i ha
    split at h
    · rename_i v0 hrun
      split at h
      · rename_i hv
        simp only [Option.some.injEq, Prod.mk.injEq] at h
        obtain ⟨rfl, rfl⟩ := h
        exact (hr _ _ _ _ _ hrun).flat ha hv _
      · cases h
    · rename_i v0 r hrun
      split at h
      · rename_i hw
        simp only [Option.some.injEq, Prod.mk.injEq] at h
        obtain ⟨rfl, rfl⟩ := h
        exact (hr _ _ _ _ _ hrun).fresh ha (FlatH.nil.cons (flatRow_of hw.2)) (fun s hs => by simp at hs; subst hs; exact Or.inl hw.1) _ rfl
      · cases h
    · cases h
  · exact hr _ _ _ _ _ h
theorem leave_ends {C : Ctx P} {fn : Func} {e : Exit} (he : e = .normal ∨ e = .ret) {T' : Tm} {H H1 H' : Heap} {l : List Value} {v : Value} (hcl : Closed H) (hres : resOf P T' H1 fn.results.toList = some l) (h : leave C (packR l) H H1 = some (v, H')) : Ends P fn H.length v H' e T' H1 := by
  unfold leave at h
  split at h
  · rename_i hem
    have hH : H = [] := by simpa using hem
    subst hH
    split at h
    · rename_i hv
      simp only [Option.some.injEq, Prod.mk.injEq] at h
      obtain ⟨rfl, rfl⟩ := h
      exact ⟨he, Or.inr ⟨l, H1, hres, rfl, rfl, Nat.le_refl _, Or.inr hcl, fun i hi => by rw [(fixV_spec hv).1] at hi; cases hi⟩⟩
    · split at h
      · rename_i j n hpk
        split at h
        · rename_i r hrow
          split at h
          · rename_i hw
            simp only [Option.some.injEq, Prod.mk.injEq] at h
            obtain ⟨rfl, rfl⟩ := h
            have hr := row?_some hrow
            refine ⟨he, Or.inl ⟨l, _, hres, ?_, renOK_flat [j] (by simp [hr]) (by simp) (FlatH.nil.cons (flatRow_of hw.2)), ?_⟩⟩
            · rw [hpk]; rfl
            · intro i hi; simp [idsV, idsA, idsS, idsP] at hi; simp [hi]
          · cases h
        · cases h
      · cases h
  · rename_i hem
    split at h
    · rename_i hi
      simp only [Option.some.injEq, Prod.mk.injEq] at h
      obtain ⟨rfl, rfl⟩ := h
      refine ⟨he, Or.inr ⟨l, [], hres, rfl, by simp, hi.2, Or.inl rfl, fun i h => ?_⟩⟩
      have := hi.1
      simp only [List.all_eq_true, decide_eq_true_eq] at this
      exact this i h
    · cases h
theorem told_none : CallOK P (fun _ _ _ => none) := fun f args H v H' h => by cases h
end
end Go.Am
set_option linter.unusedVariables false
set_option linter.unusedSimpArgs false
namespace Go.Am
open Go.RowKit
theorem rep_nil {P : Program} {ρ : Ren} {w : World} : Rep P ρ [] w :=
  ⟨fun i r h => by simp at h, fun i j r s h => by simp at h, fun i r h => by simp at h⟩
theorem Sound.top {P : Program} {f : FuncId} {args : List Value} {H H' : Heap} {v : Value} (hS : Sound P f args H v H') (hro : ∀ (i : Nat) (r : Row), H[i]? = some (some r) → r.wr = false) {ρ : Ren} {W : World} (hr : Rep P ρ H W)
    (ha : ∀ x ∈ args, ∀ i ∈ idsV x, i < H.length) (hv : fixV v = true) : Calls P f (args.map (mapV ρ)).toArray W fun e W' => e = .returned v ∧ Below W.heap.size W W' :=
  (hS.run ρ W hr ha).mono fun e W' h => by
    obtain ⟨ρ', rfl, ad, _⟩ := h
    refine ⟨by rw [mapV, (fixV_spec hv).2], ad.os, ad.tape, ad.output, ad.size, fun k hk => ad.frame k hk fun i r hi hw => ?_⟩
    rw [hro i r hi] at hw
    cases hw
theorem Sound.top0 {P : Program} {f : FuncId} {args : List Value} {H' : Heap} {v : Value} (hS : Sound P f args [] v H') (ha : (args.all fixV) = true) (hv : fixV v = true) (W : World) :
    Calls P f args.toArray W fun e W' => e = .returned v ∧ Below W.heap.size W W' := by
  have ha' := List.all_eq_true.1 ha
  have h := hS.top (ρ := fun _ => ⟨0, 0, 0⟩) (W := W) (fun i r h => by simp at h) rep_nil (fun x hx i hi => by rw [(fixV_spec (ha' x hx)).1] at hi; cases hi) hv
  have e : args.map (mapV fun _ => ⟨0, 0, 0⟩) = args := by
    conv => rhs; rw [← List.map_id args]
    exact List.map_congr_left fun x hx => (fixV_spec (ha' x hx)).2 _
  rwa [e] at h
end Go.Am
set_option linter.unusedVariables false
set_option linter.unusedSimpArgs false
namespace Go.Am
open Go.RowKit
def fieldsB (P : Program) (rec : TypeId → Option Nat) : List Field → Nat → Option (List Nat)
  | [], _ => some []
  | f :: r, off => match rec f.type, (P.info? f.type).map (·.size), fieldsB P rec r (off + ((rec f.type).getD 0)) with
    | some m, some m', some l => if m = m' ∧ (f.name == "_") = false ∧ f.offset = off then some (m :: l) else none
    | _, _, _ => none
def flatB (P : Program) : Nat → TypeId → Option Nat
  | 0, _ => none
  | d + 1, t => match P.underlying t with
    | some (.int _) => some 1
    | some (.array n e) => match flatB P d e, (P.info? e).map (·.size) with
      | some m, some m' => if m = m' then some (n * m) else none
      | _, _ => none
    | some (.struct fs) => if P.stoodInHeld t = false then (fieldsB P (flatB P d) fs.toList 0).map List.sum else none
    | _ => none
theorem fieldsB_spec {P : Program} {rec : TypeId → Option Nat} : ∀ {fs : List Field} {off : Nat} {ms : List Nat}, fieldsB P rec fs off = some ms → ms.length = fs.length ∧
    ∀ (i : Nat) (f : Field) (m : Nat), fs[i]? = some f → ms[i]? = some m → (f.name == "_") = false ∧ f.offset = off + (ms.take i).sum ∧ (P.info? f.type).map (·.size) = some m ∧ rec f.type = some m
  | [], off, ms, h => by simp [fieldsB] at h; subst h; simp
  | f :: r, off, ms, h => by
    simp only [fieldsB] at h
    split at h
    · rename_i m m' l h1 h2 h3
      split at h
      · rename_i hc
        simp only [Option.some.injEq] at h
        subst h
        rw [h1] at h3
        obtain ⟨hl, hs⟩ := fieldsB_spec h3
        refine ⟨by simp [hl], fun i g k hi hk => ?_⟩
        cases i with
        | zero =>
          simp only [List.getElem?_cons_zero, Option.some.injEq] at hi hk
          subst hi hk
          exact ⟨hc.2.1, by simp [hc.2.2], by rw [h2, hc.1], h1⟩
        | succ i =>
          simp only [List.getElem?_cons_succ] at hi hk
          obtain ⟨a, b, c, d⟩ := hs i g k hi hk
          refine ⟨a, ?_, c, d⟩
          rw [b]
          simp
          omega
      · cases h
    · cases h
theorem flatB_spec {P : Program} : ∀ {d : Nat} {t : TypeId} {n : Nat}, flatB P d t = some n → FlatTy P d t n
  | 0, t, n, h => by cases h
  | d + 1, t, n, h => by
    simp only [flatB] at h
    split at h
    · rename_i k hu
      simp only [Option.some.injEq] at h
      subst h
      exact .int hu
    · rename_i m e hu
      split at h
      · rename_i a b h1 h2
        split at h
        · rename_i hab
          simp only [Option.some.injEq] at h
          subst h hab
          exact .array hu (flatB_spec h1) h2
        · cases h
      · cases h
    · rename_i fs hu
      split at h
      · rename_i hs
        cases hf : fieldsB P (flatB P d) fs.toList 0 with
        | none => rw [hf] at h; cases h
        | some ms =>
          rw [hf] at h
          simp only [Option.map_some, Option.some.injEq] at h
          obtain ⟨hl, hsp⟩ := fieldsB_spec hf
          refine .struct hu hs (by simpa using hl) (fun i f m hi hm => ?_) (fun i f m hi hm => ?_) h.symm
          · obtain ⟨a, b, c, _⟩ := hsp i f m (by simpa using hi) hm
            exact ⟨a, by simpa using b, c⟩
          · obtain ⟨_, _, _, e⟩ := hsp i f m (by simpa using hi) hm
            exact flatB_spec e
      · cases h
    · cases h
def stdFlat (P : Program) (t : TypeId) : Option Nat :=
  match P.underlying t with
  | some (.int _) => none
  | _ => if P.eqGuardType P.depth t = false then flatB P 9 t else none
theorem stdFlat_ok (P : Program) (t : TypeId) (n : Nat) (h : stdFlat P t = some n) : FlatTy P 9 t n ∧ P.eqGuardType P.depth t = false ∧ ∀ k, P.underlying t ≠ some (.int k) := by
  unfold stdFlat at h
  split at h
  · cases h
  · rename_i hne
    split at h
    · rename_i hg
      exact ⟨flatB_spec h, hg, fun k hk => hne k hk⟩
    · cases h
def Ctx.std (P : Program) (cc : FuncId → Cls) (mixed : P.follows .mixedOrders = true) : Ctx P := ⟨stdFlat P, stdFlat_ok P, cc, mixed⟩
end Go.Am
set_option linter.unusedVariables false
set_option linter.unusedSimpArgs false
namespace Go.Am
open Go.RowKit
def A3.put (c : A3) (k : Nat) (n : Int) : A3 := match k with
  | 0 => { c with x := n }
  | 1 => { c with y := n }
  | _ => { c with z := n }
section
variable {P : Program} {C : Ctx P} {T : Tm} {H : Heap} {t u : TypeId} {x y : Operand}
end
end Go.Am
set_option linter.unusedVariables false
set_option linter.unusedSimpArgs false
namespace Go.Am
def inR (n lo hi : Int) : Bool := decide (lo ≤ n) && decide (n ≤ hi)
def cellOf (Y Z i : Nat) : A3 := ⟨((i / Z / Y : Nat) : Int), ((i / Z % Y : Nat) : Int), ((i % Z : Nat) : Int)⟩
def upto (Y Z s n : Nat) : List A3 := ((List.range n).filter fun i => s.testBit i).map (cellOf Y Z)
def listOf (X Y Z s : Nat) : List A3 := upto Y Z s (X * Y * Z)
theorem size_le {X Y Z : Nat} (hX : X ≤ 4) (hY : Y ≤ 4) (hZ : Z ≤ 4) : X * Y ≤ 16 ∧ X * Y * Z ≤ 64 := by
  have h1 : X * Y ≤ 4 * 4 := Nat.mul_le_mul hX hY
  exact ⟨h1, Nat.mul_le_mul h1 hZ⟩
end Go.Am
namespace Go.Am
end Go.Am
namespace Go.Am
def allOf (X Y Z : Nat) : List A3 := (List.range (X * Y * Z)).map (cellOf Y Z)
section
open Go.RowKit
variable {P : Program} {C : Ctx P} {T : Tm} {H : Heap} {t u : TypeId} {x y : Operand} {k : IntKind} {a : Int}
theorem arg_lt {args0 args : List Value} {σ : Nat → Nat} {n k : Nat} (ha : args = args0.map (mpV (renId σ))) (h0 : (args0.any fun x => (idsV x).contains k) = true) (h : ∀ x ∈ args, ∀ i ∈ idsV x, i < n) : σ k < n := by
  rw [List.any_eq_true] at h0
  obtain ⟨x, hx, hk⟩ := h0
  refine h (mpV (renId σ) x) (by rw [ha]; exact List.mem_map_of_mem hx) _ ?_
  rw [idsV_ren]
  exact List.mem_map_of_mem (by simpa using hk)
end
end Go.Am
namespace Go.Am
end Go.Am
set_option linter.unusedVariables false
set_option linter.unusedSimpArgs false
namespace Go.Proofs.Ytcldfmnkeiogdaa
open Go.Am Go.RowKit
theorem mixedT : Try.prog.follows .mixedOrders = true := by kernel_rfl
def cls (f : FuncId) : Cls := match f with
  | _ => .Q
noncomputable def cx : Ctx Try.prog := Ctx.std Try.prog cls mixedT
end Go.Proofs.Ytcldfmnkeiogdaa
set_option linter.unusedVariables false
set_option linter.unusedSimpArgs false
namespace Go.Am
open Go.RowKit
structure Meta where
  mks : List Nat
  wr : List Nat
  rd : List Nat
def Meta.ws (m : Meta) : List Nat := m.mks ++ m.wr
def nmP (mk : List Nat) : Value → Bool
  | .pointer (some a) => a.spot.isNone && !mk.contains a.block
  | .slice (some a) _ _ => a.spot.isNone && !mk.contains a.block
  | _ => true
def nmS (mk : List Nat) : Value → Bool
  | .func _ first cap => first.toList.all (nmP mk) && cap.toList.all (nmP mk)
  | v => nmP mk v
def nmA (mk : List Nat) : Value → Bool
  | .agg cs => cs.toList.all (nmS mk)
  | v => nmS mk v
def nmV (mk : List Nat) : Value → Bool
  | .tuple vs => vs.toList.all (nmA mk)
  | v => nmA mk v
theorem mpP_fix {mk : List Nat} {σ : Nat → Nat} (hσ : ∀ i, i ∉ mk → σ i = i) {v : Value} (h : nmP mk v = true) : mpP (renId σ) v = v := by
  cases v with
  | pointer a => cases a with
    | none => rfl
    | some a =>
      obtain ⟨b, o, s⟩ := a
      simp only [nmP, Bool.and_eq_true, Option.isNone_iff_eq_none, Bool.not_eq_true', List.contains_eq_mem, decide_eq_false_iff_not] at h
      obtain ⟨rfl, h2⟩ := h
      simp [mpP, renId, hσ b h2]
  | slice a n c => cases a with
    | none => rfl
    | some a =>
      obtain ⟨b, o, s⟩ := a
      simp only [nmP, Bool.and_eq_true, Option.isNone_iff_eq_none, Bool.not_eq_true', List.contains_eq_mem, decide_eq_false_iff_not] at h
      obtain ⟨rfl, h2⟩ := h
      simp [mpP, renId, hσ b h2]
  | _ => rfl
theorem map_fix {f : Value → Value} {p : Value → Bool} (hf : ∀ v, p v = true → f v = v) {a : Array Value} (h : a.toList.all p = true) : a.map f = a := by
  conv => rhs; rw [← Array.map_id a]
  refine Array.map_congr_left fun x hx => ?_
  exact hf x (List.all_eq_true.1 h x (by simpa using hx))
theorem mpS_fix {mk : List Nat} {σ : Nat → Nat} (hσ : ∀ i, i ∉ mk → σ i = i) {v : Value} (h : nmS mk v = true) : mpS (renId σ) v = v := by
  cases v with
  | func fn first cap =>
    simp only [nmS, Bool.and_eq_true] at h
    simp only [mpS, map_fix (fun v hv => mpP_fix hσ hv) h.1, map_fix (fun v hv => mpP_fix hσ hv) h.2]
  | _ => exact mpP_fix hσ (by simpa only [nmS] using h)
theorem mpA_fix {mk : List Nat} {σ : Nat → Nat} (hσ : ∀ i, i ∉ mk → σ i = i) {v : Value} (h : nmA mk v = true) : mpA (renId σ) v = v := by
  cases v with
  | agg cs =>
    simp only [nmA] at h
    simp only [mpA, map_fix (fun v hv => mpS_fix hσ hv) h]
  | _ => exact mpS_fix hσ (by simpa only [nmA] using h)
theorem nmV_fix {mk : List Nat} {σ : Nat → Nat} (hσ : ∀ i, i ∉ mk → σ i = i) {v : Value} (h : nmV mk v = true) : mpV (renId σ) v = v := by
  cases v with
  | tuple cs =>
    simp only [nmV] at h
    simp only [mpV, map_fix (fun v hv => mpA_fix hσ hv) h]
  | _ => exact mpA_fix hσ (by simpa only [nmV] using h)
theorem nmP_mono {mk mk' : List Nat} (hs : ∀ i, i ∈ mk → i ∈ mk') {v : Value} (h : nmP mk' v = true) : nmP mk v = true := by
  cases v with
  | pointer a => cases a with
    | none => rfl
    | some a =>
      simp only [nmP, Bool.and_eq_true, Bool.not_eq_true', List.contains_eq_mem, decide_eq_false_iff_not] at h ⊢
      exact ⟨h.1, fun hm => h.2 (hs _ hm)⟩
  | slice a n c => cases a with
    | none => rfl
    | some a =>
      simp only [nmP, Bool.and_eq_true, Bool.not_eq_true', List.contains_eq_mem, decide_eq_false_iff_not] at h ⊢
      exact ⟨h.1, fun hm => h.2 (hs _ hm)⟩
  | _ => rfl
theorem all_mono {p q : Value → Bool} (h : ∀ v, q v = true → p v = true) {l : List Value} (hl : l.all q = true) : l.all p = true :=
  List.all_eq_true.2 fun x hx => h x (List.all_eq_true.1 hl x hx)
theorem nmS_mono {mk mk' : List Nat} (hs : ∀ i, i ∈ mk → i ∈ mk') {v : Value} (h : nmS mk' v = true) : nmS mk v = true := by
  cases v with
  | func fn first cap =>
    simp only [nmS, Bool.and_eq_true] at h ⊢
    exact ⟨all_mono (fun v hv => nmP_mono hs hv) h.1, all_mono (fun v hv => nmP_mono hs hv) h.2⟩
  | _ => simp only [nmS] at h ⊢; exact nmP_mono hs h
theorem nmA_mono {mk mk' : List Nat} (hs : ∀ i, i ∈ mk → i ∈ mk') {v : Value} (h : nmA mk' v = true) : nmA mk v = true := by
  cases v with
  | agg cs => exact all_mono (fun v hv => nmS_mono hs hv) (by simpa only [nmA] using h)
  | _ => simp only [nmA] at h ⊢; exact nmS_mono hs h
theorem nmV_mono {mk mk' : List Nat} (hs : ∀ i, i ∈ mk → i ∈ mk') {v : Value} (h : nmV mk' v = true) : nmV mk v = true := by
  cases v with
  | tuple cs => exact all_mono (fun v hv => nmA_mono hs hv) (by simpa only [nmV] using h)
  | _ => simp only [nmV] at h ⊢; exact nmA_mono hs h
def NMRow (mk : List Nat) (r : Row) : Prop := ∀ v ∈ r.cells, nmS mk v = true
theorem nmS_of_flat {mk : List Nat} {v : Value} (h : idsS v = []) : nmS mk v = true := by
  have hp : ∀ u : Value, idsP u = [] → nmP mk u = true := by
    intro u hu
    cases u with
    | pointer a => cases a <;> simp_all [nmP, idsP]
    | slice a n c => cases a <;> simp_all [nmP, idsP]
    | _ => rfl
  cases v with
  | func fn first cap =>
    simp only [idsS, List.flatMap_eq_nil_iff, List.mem_append] at h
    simp only [nmS, Bool.and_eq_true, List.all_eq_true]
    exact ⟨fun x hx => hp x (h x (Or.inl hx)), fun x hx => hp x (h x (Or.inr hx))⟩
  | _ => simp only [nmS]; exact hp _ (by simpa only [idsS] using h)
theorem nmF {mk : List Nat} {r : Row} (h : FlatRow r) : NMRow mk r := fun v hv => nmS_of_flat (h v hv).1
theorem nmX {mk : List Nat} {r : Row} (h : (r.cells.all (nmS mk)) = true) : NMRow mk r := fun v hv => List.all_eq_true.1 h v hv
theorem NMRow.ren {mk : List Nat} {r : Row} (h : NMRow mk r) {σ : Nat → Nat} (hσ : ∀ i, i ∉ mk → σ i = i) : renRow σ r = r := by
  unfold renRow
  have : r.cells.map (mpS (renId σ)) = r.cells := by
    conv => rhs; rw [← List.map_id r.cells]
    exact List.map_congr_left fun v hv => mpS_fix hσ (h v hv)
  rw [this]
theorem NMRow.mono {mk mk' : List Nat} {r : Row} (hs : ∀ i, i ∈ mk → i ∈ mk') (h : NMRow mk' r) : NMRow mk r := fun v hv => nmS_mono hs (h v hv)
def patch (ws : List Nat) (H' G : Heap) : Heap := (List.range G.length).map fun i => if i ∈ ws then (H'[i]?).join else (G[i]?).join
theorem patch_length (ws : List Nat) (H' G : Heap) : (patch ws H' G).length = G.length := by simp [patch]
theorem patch_in {ws : List Nat} {H' G : Heap} {i : Nat} (h : i ∈ ws) (hl : H'.length = G.length) : (patch ws H' G)[i]? = H'[i]? := by
  unfold patch
  rw [List.getElem?_map]
  rcases Nat.lt_or_ge i G.length with hi | hi
  · rw [List.getElem?_range hi, Option.map_some, if_pos h, List.getElem?_eq_getElem (by omega)]
    rfl
  · rw [List.getElem?_eq_none (by simpa using hi), List.getElem?_eq_none (by omega)]; rfl
theorem patch_out {ws : List Nat} {H' G : Heap} {i : Nat} (h : i ∉ ws) : (patch ws H' G)[i]? = G[i]? := by
  unfold patch
  rw [List.getElem?_map]
  rcases Nat.lt_or_ge i G.length with hi | hi
  · rw [List.getElem?_range hi, Option.map_some, if_neg h, List.getElem?_eq_getElem hi]
    rfl
  · rw [List.getElem?_eq_none (by simpa using hi), List.getElem?_eq_none (by omega)]; rfl
def HS (ws : Nat → List Nat) (Hs : Nat → Heap) (p : Nat → Bool) : Nat → Heap
  | 0 => Hs 0
  | k + 1 => if p k = true then patch (ws k) (Hs (k + 1)) (HS ws Hs p k) else HS ws Hs p k
section
variable {ws : Nat → List Nat} {Hs : Nat → Heap} {p q : Nat → Bool} {n N : Nat}
theorem HS_len (h0 : (Hs 0).length = N) (p : Nat → Bool) : ∀ k, (HS ws Hs p k).length = N
  | 0 => h0
  | k + 1 => by
    unfold HS
    split
    · rw [patch_length, HS_len h0 p k]
    · exact HS_len h0 p k
theorem HS_congr (hN : ∀ k, k ≤ n → (Hs k).length = N) {i : Nat} : ∀ k, k ≤ n → (∀ j, j < k → i ∈ ws j → p j = q j) → (HS ws Hs p k)[i]? = (HS ws Hs q k)[i]?
  | 0, _, _ => rfl
  | k + 1, hk, h => by
    have ih := HS_congr hN k (by omega) fun j hj => h j (by omega)
    have hl : ∀ p : Nat → Bool, (Hs (k + 1)).length = (HS ws Hs p k).length := fun p => by rw [hN (k + 1) hk, HS_len (hN 0 (by omega)) p k]
    unfold HS
    by_cases hi : i ∈ ws k
    · rw [h k (by omega) hi]
      split
      · rw [patch_in hi (hl _), patch_in hi (hl _)]
      · exact ih
    · split
      · rw [patch_out hi]
        split
        · rw [patch_out hi]; exact ih
        · exact ih
      · split
        · rw [patch_out hi]; exact ih
        · exact ih
theorem HS_all (hN : ∀ k, k ≤ n → (Hs k).length = N) (hf : ∀ k, k < n → ∀ i, i ∉ ws k → (Hs (k + 1))[i]? = (Hs k)[i]?) (i : Nat) : ∀ k, k ≤ n → (HS ws Hs (fun _ => true) k)[i]? = (Hs k)[i]?
  | 0, _ => rfl
  | k + 1, hk => by
    have ih := HS_all hN hf i k (by omega)
    unfold HS
    rw [if_pos rfl]
    by_cases hi : i ∈ ws k
    · rw [patch_in hi (by rw [hN (k + 1) hk, HS_len (hN 0 (by omega)) _ k])]
    · rw [patch_out hi, ih, hf k (by omega) i hi]
theorem HS_upto {j : Nat} (i : Nat) : ∀ d, (HS ws Hs (fun k => decide (k < j)) (j + d))[i]? = (HS ws Hs (fun k => decide (k < j)) j)[i]?
  | 0 => rfl
  | d + 1 => by
    show (HS ws Hs (fun k => decide (k < j)) (j + d + 1))[i]? = _
    rw [HS, if_neg (by simp)]
    exact HS_upto i d
theorem HS_at (hN : ∀ k, k ≤ n → (Hs k).length = N) (hf : ∀ k, k < n → ∀ i, i ∉ ws k → (Hs (k + 1))[i]? = (Hs k)[i]?) {j : Nat} (hj : j ≤ n) (i : Nat) : (HS ws Hs (fun k => decide (k < j)) n)[i]? = (Hs j)[i]? := by
  obtain ⟨d, rfl⟩ : ∃ d, n = j + d := ⟨n - j, by omega⟩
  rw [HS_upto, ← HS_all hN hf i j hj]
  exact HS_congr (q := fun _ => true) hN j hj fun k hk _ => by simp [hk]
theorem HS_origin {i : Nat} {r : Row} : ∀ k, k ≤ n → (hN : ∀ k, k ≤ n → (Hs k).length = N) → (HS ws Hs p k)[i]? = some (some r) → (Hs 0)[i]? = some (some r) ∨ ∃ j, j < k ∧ p j = true ∧ i ∈ ws j ∧ (Hs (j + 1))[i]? = some (some r)
  | 0, _, _, h => Or.inl h
  | k + 1, hk, hN, h => by
    unfold HS at h
    split at h
    · rename_i hp
      by_cases hi : i ∈ ws k
      · rw [patch_in hi (by rw [hN (k + 1) hk, HS_len (hN 0 (by omega)) _ k])] at h
        exact Or.inr ⟨k, by omega, hp, hi, h⟩
      · rw [patch_out hi] at h
        rcases HS_origin k (by omega) hN h with h1 | ⟨j, h1, h2⟩
        · exact Or.inl h1
        · exact Or.inr ⟨j, by omega, h2⟩
    · rcases HS_origin k (by omega) hN h with h1 | ⟨j, h1, h2⟩
      · exact Or.inl h1
      · exact Or.inr ⟨j, by omega, h2⟩
end
theorem TD_origin {vs : Nat → Value} {p : Nat → Bool} : ∀ (l : List Oper) (k : Nat) (T : Tm) (t : Nat) (v : Value), (TD l k vs p T)[t]? = some (some v) → T[t]? = some (some v) ∨ ∃ i, i < l.length ∧ p (k + i) = true ∧ v = vs (k + i)
  | [], k, T, t, v, h => Or.inl h
  | o :: r, k, T, t, v, h => by
    rw [TD] at h
    rcases TD_origin r (k + 1) _ t v h with h1 | ⟨i, h1, h2, h3⟩
    · split at h1
      · rename_i hp
        cases hd : o.dst with
        | none => rw [hd] at h1; exact Or.inl h1
        | some d =>
          rw [hd] at h1
          by_cases hdt : d = t
          · subst hdt
            have hl := lt_of_some h1
            rw [length_putT] at hl
            rw [putT_self _ _ _ hl] at h1
            simp only [Option.some.injEq] at h1
            exact Or.inr ⟨0, by simp, by simpa using hp, h1.symm⟩
          · rw [putT_at _ _ _ _ (by simpa using hdt)] at h1
            exact Or.inl h1
      · exact Or.inl h1
    · exact Or.inr ⟨i + 1, by simp; omega, by rw [← h2]; congr 1; omega, by rw [h3]; congr 1; omega⟩
def LDoes {P : Program} (C : Ctx P) (N : Nat) (m : Meta) (T' : Tm) (G : Heap) (op : Op) (v : Value) (H' : Heap) : Prop :=
  ∃ (v1 : Value) (G1 : Heap) (σ : Nat → Nat), Does C T' G op v1 G1 ∧ (∀ i, i ∉ m.mks → σ i = i) ∧ v1 = mpV (renId σ) v ∧ (∀ i, i ∉ m.ws → i < N → G1[i]? = G[i]?) ∧
    (∀ i r, i ∈ m.ws → H'[i]? = some (some r) → G1[σ i]? = some (some (renRow σ r))) ∧ (∀ i j, i < N → j < N → σ i = σ j → i = j)
def StepW {P : Program} (C : Ctx P) (N : Nat) (m : Meta) (T : Tm) (H : Heap) (op : Op) (v : Value) (H' : Heap) : Prop :=
  H'.length = N ∧ (∀ i, i ∉ m.ws → H'[i]? = H[i]?) ∧ (∀ i ∈ idsV v, i < N) ∧ (∀ i r, i ∈ m.ws → H'[i]? = some (some r) → ∀ v ∈ r.cells, ∀ k ∈ idsS v, k < N) ∧
    ∀ T' G, (∀ x ∈ op.operands, evalO T x = evalO T' x) → G.length = N → (∀ i, i ∈ m.ws ++ m.rd → G[i]? = H[i]?) → LDoes C N m T' G op v H'
def clash (m m' : Meta) : Bool := (m.ws.any fun i => m'.ws.contains i || m'.rd.contains i) || m.rd.any fun i => m'.ws.contains i
def conflict2 (ops : Array Oper) (x y : Oper) (m m' : Meta) : Bool :=
  (match x.dst with
    | some d => (y.looksAt ops).contains d || y.dst == some d
    | none => false) ||
  (match y.dst with
    | some d => (x.looksAt ops).contains d
    | none => false) || clash m m'
def regionOK2 (ops : Array Oper) (ms : List Meta) : Bool :=
  (List.range ops.size).all fun j => match ops[j]? with
    | none => false
    | some oj => (oj.after.all fun e => !Region.binds .any e || decide (e.on < j)) && (List.range j).all fun i => match ops[i]? with
      | some oi => reach (masksGo ops.toList []) i j || !conflict2 ops oi oj (ms.getD i ⟨[], [], []⟩) (ms.getD j ⟨[], [], []⟩)
      | none => false
def hid (ops : Array Oper) (ms : List Meta) (j : Nat) : List Nat := (List.range ops.size).flatMap fun k => if k = j ∨ reach (masksGo ops.toList []) k j = true then [] else (ms.getD k ⟨[], [], []⟩).mks
structure DRun2 {P : Program} (C : Ctx P) (ops : Array Oper) (ms : List Meta) (N n0 : Nat) (T0 : Tm) (vs : Nat → Value) (Hs : Nat → Heap) : Prop where
  ok : regionOK2 ops ms = true
  low : ∀ k, k < ops.size → ∀ i ∈ (ms.getD k ⟨[], [], []⟩).mks, n0 ≤ i
  len : ∀ k, k ≤ ops.size → (Hs k).length = N
  step : ∀ i o, ops[i]? = some o → ∃ b, want? (TD ops.toList 0 vs (fun k => decide (k < i)) T0) ops o = some b ∧
    (b = true → StepW C N (ms.getD i ⟨[], [], []⟩) (TD ops.toList 0 vs (fun k => decide (k < i)) T0) (Hs i) o.op (vs i) (Hs (i + 1)) ∧ nmV (hid ops ms i) (vs i) = true ∧ ∀ j r, j ∈ (ms.getD i ⟨[], [], []⟩).ws → (Hs (i + 1))[j]? = some (some r) → NMRow (hid ops ms i) r) ∧
    (b = false → vs i = undef ∧ Hs (i + 1) = Hs i)
  nmT : ∀ k, k < ops.size → ∀ (t : Nat) (v : Value), T0[t]? = some (some v) → nmV (ms.getD k ⟨[], [], []⟩).mks v = true
  nmH : ∀ k, k < ops.size → ∀ (i : Nat) (r : Row), (Hs 0)[i]? = some (some r) → NMRow (ms.getD k ⟨[], [], []⟩).mks r
section
variable {P : Program} {C : Ctx P} {ops : Array Oper} {ms : List Meta} {N n0 : Nat} {T0 : Tm} {vs : Nat → Value} {Hs : Nat → Heap}
theorem DRun2.edge (h : DRun2 C ops ms N n0 T0 vs Hs) {j : Nat} {o : Oper} (ho : ops[j]? = some o) : ∀ e ∈ o.after, Region.binds .any e = true → e.on < j := by
  have hlt : j < ops.size := (Array.getElem?_eq_some_iff.1 ho).1
  have := h.ok
  simp only [regionOK2, List.all_eq_true, List.mem_range] at this
  have := this j hlt
  rw [ho] at this
  simp only [Bool.and_eq_true] at this
  intro e he hb
  have := Array.all_eq_true_iff_forall_mem.1 this.1 e he
  simpa [hb] using this
theorem DRun2.pair (h : DRun2 C ops ms N n0 T0 vs Hs) {i j : Nat} {oi oj : Oper} (hi : ops[i]? = some oi) (hj : ops[j]? = some oj) (hij : i < j) (hc : conflict2 ops oi oj (ms.getD i ⟨[], [], []⟩) (ms.getD j ⟨[], [], []⟩) = true) : reach (masksGo ops.toList []) i j = true := by
  have hlt : j < ops.size := (Array.getElem?_eq_some_iff.1 hj).1
  have := h.ok
  simp only [regionOK2, List.all_eq_true, List.mem_range] at this
  have := this j hlt
  rw [hj] at this
  simp only [Bool.and_eq_true, List.all_eq_true, List.mem_range] at this
  have := this.2 i hij
  rw [hi] at this
  rw [Bool.or_eq_true] at this
  rcases this with h1 | h1
  · exact h1
  · rw [hc] at h1; cases h1
theorem DRun2.frame (h : DRun2 C ops ms N n0 T0 vs Hs) {k : Nat} (hk : k < ops.size) (i : Nat) (hi : i ∉ (ms.getD k ⟨[], [], []⟩).ws) : (Hs (k + 1))[i]? = (Hs k)[i]? := by
  obtain ⟨b, _, h1, h2⟩ := h.step k ops[k] (Array.getElem?_eq_getElem hk)
  cases b with
  | false => rw [(h2 rfl).2]
  | true => exact (h1 rfl).1.2.1 i hi
end
theorem clash_of {m m' : Meta} {i : Nat} (h : (i ∈ m.ws ∧ (i ∈ m'.ws ∨ i ∈ m'.rd)) ∨ (i ∈ m.rd ∧ i ∈ m'.ws)) : clash m m' = true := by
  unfold clash
  rw [Bool.or_eq_true, List.any_eq_true, List.any_eq_true]
  rcases h with ⟨h1, h2⟩ | ⟨h1, h2⟩
  · left; refine ⟨i, h1, ?_⟩; simpa using h2
  · right; exact ⟨i, h1, by simpa using h2⟩
structure DInv2 {P : Program} (C : Ctx P) (ops : Array Oper) (ms : List Meta) (N : Nat) (T0 : Tm) (vs : Nat → Value) (Hs : Nat → Heap) (ρ0 : Ren) (H0 : Heap) (w0 : World) (listed : Array Bool) (ρ : Ren) (a : Act) (w : World) : Prop where
  size : listed.size = ops.size
  cl : ∀ (j : Nat) (o : Oper), ops[j]? = some o → Lst listed j → ∀ e ∈ o.after, Region.binds .any e = true → Lst listed e.on
  adv : Adv P ρ0 H0 w0 ρ (HS (fun k => (ms.getD k ⟨[], [], []⟩).ws) Hs (fun k => listed.getD k false) ops.size) w
  rt : RT ρ N (TD ops.toList 0 vs (fun k => listed.getD k false) T0) a
  df : a.defers = []
theorem DInv2.go {P : Program} {C : Ctx P} {ops : Array Oper} {ms : List Meta} {N : Nat} {T0 : Tm} {vs : Nat → Value} {Hs : Nat → Heap} {ρ0 : Ren} {H0 : Heap} {w0 : World} (dr : DRun2 C ops ms N H0.length T0 vs Hs) {listed : Array Bool} {ρ : Ren} {a : Act} {w : World}
    (h : DInv2 C ops ms N T0 vs Hs ρ0 H0 w0 listed ρ a w) {j : Nat} (hj : j ∈ Region.ready .any ops listed) {K : Act → World → Prop} {Q : Exit → Act → World → Prop}
    (hK : ∀ ρ' a' w', DInv2 C ops ms N T0 vs Hs ρ0 H0 w0 (listed.setIfInBounds j true) ρ' a' w' → K a' w') : wpOp P ops Q j K a w := by
  obtain ⟨hun, o, ho, hall⟩ := mem_ready.1 hj
  have hjlt : j < ops.size := (Array.getElem?_eq_some_iff.1 ho).1
  have hjl : j < listed.size := by rw [h.size]; exact hjlt
  have hnl : ¬ Lst listed j := by
    unfold Lst
    simp only [Array.getD_eq_getD_getElem?, Array.getElem?_eq_getElem hjl, Option.getD_some] at hun ⊢
    simp [hun]
  have hed : ∀ e ∈ o.after, Region.binds .any e = true → Lst listed e.on := hall
  let W : Nat → List Nat := fun k => (ms.getD k ⟨[], [], []⟩).ws
  have before : ∀ i oi, ops[i]? = some oi → i < j → conflict2 ops oi o (ms.getD i ⟨[], [], []⟩) (ms.getD j ⟨[], [], []⟩) = true → Lst listed i := fun i oi hi hij hc =>
    reach_spec (D := Lst listed) h.cl j i o ho hed (dr.pair hi ho hij hc)
  have noreach : ∀ i, Lst listed i → i < ops.size → ¬ reach (masksGo ops.toList []) j i = true := fun i hl hi hr =>
    hnl (reach_spec (D := Lst listed) h.cl i j ops[i] (Array.getElem?_eq_getElem hi) (h.cl i ops[i] (Array.getElem?_eq_getElem hi) hl) hr)
  have behind : ∀ i oi, ops[i]? = some oi → j < i → conflict2 ops o oi (ms.getD j ⟨[], [], []⟩) (ms.getD i ⟨[], [], []⟩) = true → ¬ Lst listed i := fun i oi hi hij hc hl =>
    noreach i hl (Array.getElem?_eq_some_iff.1 hi).1 (dr.pair ho hi hij hc)
  have decl : ∀ i, (listed.getD i false = decide (i < j)) ↔ (Lst listed i ↔ i < j) := fun i => by
    unfold Lst
    cases listed.getD i false <;> simp
  have slot : ∀ t ∈ o.looksAt ops, (TD ops.toList 0 vs (fun k => listed.getD k false) T0)[t]? = (TD ops.toList 0 vs (fun k => decide (k < j)) T0)[t]? := by
    intro t ht
    refine TD_same _ _ _ _ _ _ _ t rfl rfl fun i oi hi hd => ?_
    have hi' : ops[i]? = some oi := by simpa using hi
    rw [Nat.zero_add]
    rw [decl]
    rcases Nat.lt_trichotomy i j with hlt | rfl | hgt
    · exact ⟨fun _ => hlt, fun _ => before i oi hi' hlt (by simp only [conflict2, hd]; simp [ht])⟩
    · exact ⟨fun hl => absurd hl hnl, fun h => absurd h (by omega)⟩
    · exact ⟨fun hl => absurd hl (behind i oi hi' hgt (by simp only [conflict2, hd]; simp [ht])), fun h => absurd h (by omega)⟩
  have rowAt : ∀ i, i ∈ W j ++ (ms.getD j ⟨[], [], []⟩).rd → ∀ k, k < ops.size → k ≠ j → i ∈ W k → listed.getD k false = decide (k < j) := by
    intro i hi k hk hkj hik
    rw [decl]
    have hok : ops[k]? = some ops[k] := Array.getElem?_eq_getElem hk
    rcases Nat.lt_trichotomy k j with hlt | rfl | hgt
    · refine ⟨fun _ => hlt, fun _ => before k _ hok hlt ?_⟩
      unfold conflict2
      rw [Bool.or_eq_true]
      exact Or.inr (clash_of (i := i) (Or.inl ⟨hik, List.mem_append.1 hi⟩))
    · exact absurd rfl hkj
    · refine ⟨fun hl => absurd hl (behind k _ hok hgt ?_), fun h => absurd h (by omega)⟩
      unfold conflict2
      rw [Bool.or_eq_true]
      refine Or.inr (clash_of (i := i) ?_)
      rcases List.mem_append.1 hi with h1 | h1
      · exact Or.inl ⟨h1, Or.inl hik⟩
      · exact Or.inr ⟨h1, hik⟩
  have hfr : ∀ k, k < ops.size → ∀ i, i ∉ W k → (Hs (k + 1))[i]? = (Hs k)[i]? := fun k hk i hi => dr.frame hk i hi
  have h0N : (Hs 0).length = N := dr.len 0 (by omega)
  have hGlen : (HS W Hs (fun k => listed.getD k false) ops.size).length = N := HS_len h0N _ _
  have agree : ∀ i, i ∈ W j ++ (ms.getD j ⟨[], [], []⟩).rd → (HS W Hs (fun k => listed.getD k false) ops.size)[i]? = (Hs j)[i]? := by
    intro i hi
    rw [← HS_at (n := ops.size) dr.len hfr (by omega : j ≤ ops.size) i]
    refine HS_congr dr.len ops.size (Nat.le_refl _) fun k hk hik => ?_
    by_cases hkj : k = j
    · subst hkj
      have : listed.getD k false = false := by
        unfold Lst at hnl
        simpa using hnl
      rw [this]
      simp
    · exact rowAt i hi k hk hkj hik
  obtain ⟨b, hb, hb1, hb2⟩ := dr.step j o ho
  have hwant : want? (TD ops.toList 0 vs (fun k => listed.getD k false) T0) ops o = some b := by rw [want_congr slot]; exact hb
  have hwreal := want_sound h.rt hwant
  have getset : ∀ k, k ≠ j → (listed.setIfInBounds j true).getD k false = listed.getD k false := fun k hk => by
    simp only [Array.getD_eq_getD_getElem?]
    rw [Array.getElem?_setIfInBounds_ne (Ne.symm hk)]
  have getself : (listed.setIfInBounds j true).getD j false = true := by simp [hjl]
  have after_ : ∀ {ρ' : Ren} {a' : Act}, RT ρ' N (TD ops.toList 0 vs (fun k => listed.getD k false) T0) a' → (∀ i ∈ idsV (vs j), i < N) →
      RT ρ' N (TD ops.toList 0 vs (fun k => (listed.setIfInBounds j true).getD k false) T0) (a'.put o.dst (mapV ρ' (vs j))) := by
    intro ρ' a' hrt hv
    have hp := hrt.put o.dst hv
    have key : ∀ t : Nat, (TD ops.toList 0 vs (fun k => (listed.setIfInBounds j true).getD k false) T0)[t]? = (putT (TD ops.toList 0 vs (fun k => listed.getD k false) T0) o.dst (vs j))[t]? := by
      intro t
      by_cases hd : o.dst = some t
      · rw [hd]
        rcases Nat.lt_or_ge t T0.length with hlt | hge
        · rw [putT_self _ _ _ (by rw [TD_length]; exact hlt)]
          have := TD_last ops.toList 0 vs (fun k => (listed.setIfInBounds j true).getD k false) T0 t j o (by simpa using ho) hd (by simp [hjl]) hlt fun i oi hi hdi hij => by
            have hi' : ops[i]? = some oi := by simpa using hi
            have hnot := behind i oi hi' hij (by simp [conflict2, hd, hdi])
            rw [Nat.zero_add]
            have h1 : ¬ Lst (listed.setIfInBounds j true) i := by
              rw [lst_set hjl]
              rintro (h | h)
              · exact hnot h
              · omega
            unfold Lst at h1
            simpa using h1
          rw [Nat.zero_add] at this
          exact this
        · rw [List.getElem?_eq_none (by rw [TD_length]; exact hge), List.getElem?_eq_none (by rw [length_putT, TD_length]; exact hge)]
      · rw [putT_at _ _ _ _ hd]
        refine TD_same _ _ _ _ _ _ _ t rfl rfl fun i oi hi hdi => ?_
        have hne : i ≠ j := by
          rintro rfl
          have hi' : ops[i]? = some oi := by simpa using hi
          rw [ho] at hi'
          cases hi'
          exact hd hdi
        rw [Nat.zero_add, getset i hne]
    refine ⟨?_, fun t v hv' => ?_, fun t v hv' => ?_⟩
    · rw [hp.size, length_putT, TD_length, TD_length]
    · rw [key] at hv'; exact hp.at_ t v hv'
    · rw [key] at hv'; exact hp.cl t v hv'
  have hcl' : ∀ (k : Nat) (ok : Oper), ops[k]? = some ok → Lst (listed.setIfInBounds j true) k → ∀ e ∈ ok.after, Region.binds .any e = true → Lst (listed.setIfInBounds j true) e.on := by
    intro k ok hk hl e he hbn
    rw [lst_set hjl] at hl ⊢
    rcases hl with hl | rfl
    · exact Or.inl (h.cl k ok hk hl e he hbn)
    · rw [ho] at hk; cases hk
      exact Or.inl (hed e he hbn)
  have hsz' : (listed.setIfInBounds j true).size = ops.size := by simp [h.size]
  have mem' : HS W Hs (fun k => (listed.setIfInBounds j true).getD k false) ops.size = patch (W j) (Hs (j + 1)) (HS W Hs (fun k => listed.getD k false) ops.size) := by
    apply List.ext_getElem?
    intro i
    by_cases hi : i ∈ W j
    · rw [patch_in hi (by rw [dr.len (j + 1) (by omega), hGlen]), ← HS_at (n := ops.size) dr.len hfr (by omega : j + 1 ≤ ops.size) i]
      refine HS_congr dr.len ops.size (Nat.le_refl _) fun k hk hik => ?_
      by_cases hkj : k = j
      · subst hkj; rw [getself]; simp
      · rw [getset k hkj, rowAt i (List.mem_append_left _ hi) k hk hkj hik]
        simp only [decide_eq_decide]
        omega
    · rw [patch_out hi]
      refine HS_congr dr.len ops.size (Nat.le_refl _) fun k hk hik => ?_
      by_cases hkj : k = j
      · subst hkj; exact absurd hik hi
      · exact getset k hkj
  unfold wpOp
  rw [ho]
  simp only
  rw [hwreal]
  cases b with
  | false =>
    rw [if_neg (by simp)]
    obtain ⟨hv, hs⟩ := hb2 rfl
    have hu : ∀ ρ : Ren, mapV ρ (vs j) = undef := fun ρ => by rw [hv]; simp [undef, mapV, mpV]
    have := after_ (ρ' := ρ) (a' := a) h.rt (by rw [hv]; simp [undef, idsV])
    rw [hu] at this
    refine hK ρ _ w ⟨hsz', hcl', ?_, this, by rw [put_defers]; exact h.df⟩
    have e : HS W Hs (fun k => (listed.setIfInBounds j true).getD k false) ops.size = HS W Hs (fun k => listed.getD k false) ops.size := by
      rw [mem']
      apply List.ext_getElem?
      intro i
      by_cases hi : i ∈ W j
      · rw [patch_in hi (by rw [dr.len (j + 1) (by omega), hGlen]), hs, agree i (List.mem_append_left _ hi)]
      · rw [patch_out hi]
    show Adv P ρ0 H0 w0 ρ (HS W Hs (fun k => (listed.setIfInBounds j true).getD k false) ops.size) w
    rw [e]
    exact h.adv
  | true =>
    rw [if_pos rfl]
    obtain ⟨⟨hl', hfrj, hvN, hcells, hany⟩, hnv, hnr⟩ := hb1 rfl
    have ocg := operand_congr slot
    have hidmk : ∀ k, k < ops.size → Lst listed k → ∀ i, i ∈ (ms.getD j ⟨[], [], []⟩).mks → i ∈ hid ops ms k := fun k hk hl i hi => by
      unfold hid
      refine List.mem_flatMap.2 ⟨j, List.mem_range.2 hjlt, ?_⟩
      rw [if_neg]
      · exact hi
      · rintro (rfl | hr)
        · exact hnl hl
        · exact noreach k hl hk hr
    have lstd : ∀ k, listed.getD k false = true → Lst listed k := fun k hk => hk
    have nmG : ∀ (i : Nat) (r : Row), (HS W Hs (fun k => listed.getD k false) ops.size)[i]? = some (some r) → NMRow (ms.getD j ⟨[], [], []⟩).mks r := by
      intro i r hi
      rcases HS_origin ops.size (Nat.le_refl _) dr.len hi with h1 | ⟨k, hk, hp, hik, h1⟩
      · exact dr.nmH j hjlt i r h1
      · obtain ⟨b2, _, h2, h3⟩ := dr.step k ops[k] (Array.getElem?_eq_getElem hk)
        cases b2 with
        | true => exact ((h2 rfl).2.2 i r hik h1).mono (hidmk k hk (lstd k hp))
        | false =>
          have key : ∀ d k, k ≤ d → k < ops.size → Lst listed k → i ∈ W k → (Hs (k + 1))[i]? = some (some r) → NMRow (ms.getD j ⟨[], [], []⟩).mks r := by
            have up : ∀ k, k ≤ ops.size → (Hs k)[i]? = some (some r) → (Hs 0)[i]? = some (some r) ∨ ∃ q, q < k ∧ i ∈ W q ∧ (Hs (q + 1))[i]? = some (some r) ∧ (Hs q)[i]? ≠ some (some r) := by
              intro k
              induction k with
              | zero => intro _ h; exact Or.inl h
              | succ k ih =>
                intro hk h
                by_cases hh : (Hs k)[i]? = some (some r)
                · rcases ih (by omega) hh with h1 | ⟨q, h1, h2⟩
                  · exact Or.inl h1
                  · exact Or.inr ⟨q, by omega, h2⟩
                · refine Or.inr ⟨k, by omega, ?_, h, hh⟩
                  refine Classical.byContradiction fun hn => hh ?_
                  rw [← hfr k (by omega) i hn]; exact h
            intro d k hd hk hl hik hat
            rcases up (k + 1) (by omega) hat with h0 | ⟨q, hq, hiq, hq1, hq2⟩
            · exact dr.nmH j hjlt i r h0
            · obtain ⟨b3, _, h4, h5⟩ := dr.step q ops[q] (Array.getElem?_eq_getElem (by omega))
              cases b3 with
              | false => rw [(h5 rfl).2] at hq1; exact absurd hq1 hq2
              | true =>
                refine ((h4 rfl).2.2 i r hiq hq1).mono (hidmk q (by omega) ?_)
                rcases Nat.lt_or_ge q k with hqk | hqk
                · -- q stands before k, since both change the row
                  have hrq := dr.pair (i := q) (j := k) (Array.getElem?_eq_getElem (by omega)) (Array.getElem?_eq_getElem hk) hqk (by
                    unfold conflict2
                    rw [Bool.or_eq_true]
                    exact Or.inr (clash_of (i := i) (Or.inl ⟨hiq, Or.inl hik⟩)))
                  exact reach_spec (D := Lst listed) h.cl k q ops[k] (Array.getElem?_eq_getElem hk) (h.cl k ops[k] (Array.getElem?_eq_getElem hk) hl) hrq
                · have : q = k := by omega
                  subst this; exact hl
          exact key k k (Nat.le_refl _) hk (lstd k hp) hik h1
    have nmTT : ∀ (t : Nat) (u : Value), (TD ops.toList 0 vs (fun k => listed.getD k false) T0)[t]? = some (some u) → nmV (ms.getD j ⟨[], [], []⟩).mks u = true := by
      intro t u hu
      rcases TD_origin ops.toList 0 T0 t u hu with h1 | ⟨k, hk, hp, rfl⟩
      · exact dr.nmT j hjlt t u h1
      · rw [Nat.zero_add] at hp ⊢
        have hk' : k < ops.size := by simpa using hk
        obtain ⟨b2, _, h2, h3⟩ := dr.step k ops[k] (Array.getElem?_eq_getElem hk')
        cases b2 with
        | true => exact nmV_mono (hidmk k hk' (lstd k hp)) (h2 rfl).2.1
        | false => rw [(h3 rfl).1]; rfl
    obtain ⟨v1, G1, σ, hdoes, hσ, hv1, hG1, hnew, hinj⟩ := hany (TD ops.toList 0 vs (fun k => listed.getD k false) T0) _ (fun x hx => (ocg x hx).symm) hGlen agree
    have hrtG : RT ρ (HS W Hs (fun k => listed.getD k false) ops.size).length (TD ops.toList 0 vs (fun k => listed.getD k false) T0) a := by rw [hGlen]; exact h.rt
    refine Or.inl (does_sound h.adv.rep hrtG hdoes fun ρ1 w1 ad hv => ?_)
    have hlow : ∀ i, i < H0.length → σ i = i := fun i hi => hσ i fun hm => by
      have := dr.low j hjlt i hm
      omega
    have hlenP : (patch (W j) (Hs (j + 1)) (HS W Hs (fun k => listed.getD k false) ops.size)).length = N := by rw [patch_length, hGlen]
    have hren : RenOK H0.length G1 σ (patch (W j) (Hs (j + 1)) (HS W Hs (fun k => listed.getD k false) ops.size)) := by
      refine ⟨hlow, by rw [hlenP, ← hGlen]; exact h.adv.len, fun i r hi => ?_, fun i q r s hi hq hiq => hinj i q (by have := lt_of_some hi; omega) (by have := lt_of_some hq; omega) hiq, fun i r hi v hv k hk => ?_⟩
      · by_cases hiW : i ∈ W j
        · rw [patch_in hiW (by rw [hl', hGlen])] at hi
          exact hnew i r hiW hi
        · rw [patch_out hiW] at hi
          have hmk : i ∉ (ms.getD j ⟨[], [], []⟩).mks := fun hm => hiW (List.mem_append_left _ hm)
          rw [hσ i hmk, hG1 i hiW (by have := lt_of_some hi; omega), (nmG i r hi).ren hσ]
          exact hi
      · rw [hlenP]
        by_cases hiW : i ∈ W j
        · rw [patch_in hiW (by rw [hl', hGlen])] at hi
          exact hcells i r hiW hi v hv k hk
        · rw [patch_out hiW] at hi
          have h2 : k < N := Nat.lt_of_lt_of_eq (h.adv.rep.cl i r hi v hv k hk) hGlen
          exact h2
    have hadv := adv_ren (h.adv.trans ad) hren
    have hput : (a.put o.dst (mapV ρ1 v1)) = a.put o.dst (mapV (fun i => ρ1 (σ i)) (vs j)) := by
      rw [hv1, mapV, mapV, mpV_ren]
    rw [hput]
    refine hK (fun i => ρ1 (σ i)) _ w1 ⟨hsz', hcl', ?_, after_ ⟨h.rt.size, fun t u hu => ?_, h.rt.cl⟩ hvN, by rw [put_defers]; exact h.df⟩
    · show Adv P ρ0 H0 w0 _ (HS W Hs (fun k => (listed.setIfInBounds j true).getD k false) ops.size) w1
      rw [mem']; exact hadv
    · rw [h.rt.at_ t u hu]
      have e1 : mapV (fun i => ρ1 (σ i)) u = mapV ρ1 u := by
        rw [mapV, mapV, ← mpV_ren, nmV_fix hσ (nmTT t u hu)]
      rw [e1]
      congr 1
      exact (mapV_agree (ρ := ρ) (ρ' := ρ1) fun i hi => ad.agree i (by rw [hGlen]; exact h.rt.cl t u hu i hi)).symm
theorem draw_any2 {P : Program} {C : Ctx P} {ops : Array Oper} {ms : List Meta} {N : Nat} {T0 : Tm} {vs : Nat → Value} {Hs : Nat → Heap} {ρ0 : Ren} {H0 : Heap} {w0 : World} {Q : Exit → Act → World → Prop} (dr : DRun2 C ops ms N H0.length T0 vs Hs)
    (hQ : ∀ ρ a w, Inv P ρ0 H0 w0 ρ (TD ops.toList 0 vs (fun k => decide (k < ops.toList.length)) T0) (Hs ops.toList.length) a w → Q .normal a w) :
    ∀ (fuel : Nat) (listed : Array Bool) (ρ : Ren) (a : Act) (w : World), listed.toList.count false = fuel → DInv2 C ops ms N T0 vs Hs ρ0 H0 w0 listed ρ a w → wpAny P .any ops Q fuel listed a w := by
  have fin : ∀ (listed : Array Bool) (ρ : Ren) (a : Act) (w : World), DInv2 C ops ms N T0 vs Hs ρ0 H0 w0 listed ρ a w → Region.ready .any ops listed = [] → Q .normal a w := by
    intro listed ρ a w h hr
    have all : ∀ i, i < ops.size → Lst listed i := by
      intro i
      induction i using Nat.strongRecOn with
      | _ i ih =>
        intro hi
        have ho : ops[i]? = some ops[i] := Array.getElem?_eq_getElem hi
        have hil : i < listed.size := by rw [h.size]; exact hi
        by_cases hl : Lst listed i
        · exact hl
        · exfalso
          have : i ∈ Region.ready .any ops listed := mem_ready.2 ⟨by
            unfold Lst at hl
            simp only [Array.getD_eq_getD_getElem?, Array.getElem?_eq_getElem hil, Option.getD_some] at hl ⊢
            simpa using hl, _, ho, fun e he hb => ih e.on (dr.edge ho e he hb) (Nat.lt_trans (dr.edge ho e he hb) hi)⟩
          rw [hr] at this
          cases this
    have hT : ∀ t : Nat, (TD ops.toList 0 vs (fun k => decide (k < ops.toList.length)) T0)[t]? = (TD ops.toList 0 vs (fun k => listed.getD k false) T0)[t]? := fun t =>
      TD_same _ _ _ _ _ _ _ t rfl rfl fun i o hi _ => by
        have hlt : i < ops.toList.length := lt_of_some hi
        have := all i (by simpa using hlt)
        unfold Lst at this
        rw [Nat.zero_add, this]
        simpa using hlt
    have hH : HS (fun k => (ms.getD k ⟨[], [], []⟩).ws) Hs (fun k => listed.getD k false) ops.size = Hs ops.toList.length := by
      rw [Array.length_toList]
      apply List.ext_getElem?
      intro i
      rw [← HS_all (n := ops.size) dr.len (fun k hk i hi => dr.frame hk i hi) i ops.size (Nat.le_refl _)]
      exact HS_congr dr.len ops.size (Nat.le_refl _) fun k hk _ => all k hk
    have hNl : (Hs ops.toList.length).length = N := dr.len _ (by simp)
    refine hQ ρ a w ⟨by rw [← hH]; exact h.adv, ⟨?_, fun t v hv => ?_, fun t v hv => ?_⟩, h.df⟩
    · rw [h.rt.size, TD_length, TD_length]
    · rw [hT] at hv; exact h.rt.at_ t v hv
    · rw [hT] at hv; rw [hNl]; exact h.rt.cl t v hv
  intro fuel
  induction fuel with
  | zero =>
    intro listed ρ a w hc h
    have hr : Region.ready .any ops listed = [] := by
      cases hrr : Region.ready .any ops listed with
      | nil => rfl
      | cons j js =>
        have hj : j ∈ Region.ready .any ops listed := by rw [hrr]; simp
        obtain ⟨hun, o, ho, hall⟩ := mem_ready.1 hj
        have hjl : j < listed.size := by rw [h.size]; exact (Array.getElem?_eq_some_iff.1 ho).1
        have : false ∈ listed.toList := by
          refine List.mem_of_getElem? (i := j) ?_
          simp only [Array.getD_eq_getD_getElem?, Array.getElem?_eq_getElem hjl, Option.getD_some] at hun
          simp [hjl, hun]
        have := List.count_pos_iff.2 this
        omega
    exact ⟨hr, fin listed ρ a w h hr⟩
  | succ fuel ih =>
    intro listed ρ a w hc h
    refine ⟨fin listed ρ a w h, fun j hj => ?_⟩
    obtain ⟨hun, o, ho, hall⟩ := mem_ready.1 hj
    have hjl : j < listed.size := by rw [h.size]; exact (Array.getElem?_eq_some_iff.1 ho).1
    refine h.go dr hj fun ρ' a' w' h' => ih _ ρ' a' w' ?_ h'
    have := count_set (l := listed.toList) (i := j) (by
      simp only [Array.getD_eq_getD_getElem?, Array.getElem?_eq_getElem hjl, Option.getD_some] at hun
      simp [hjl, hun])
    simp only [Array.toList_setIfInBounds]
    omega
def sOpsW {P : Program} (C : Ctx P) (ops : Array Oper) (ms : List Meta) (N : Nat) : List Oper → Nat → Tm → Heap → (Tm → Heap → Prop) → Prop
  | [], _, T, H, K => K T H
  | o :: rest, i, T, H, K =>
    match want? T ops o with
    | none => False
    | some b => (b = true → ∃ v H', (StepW C N (ms.getD i ⟨[], [], []⟩) T H o.op v H' ∧ nmV (hid ops ms i) v = true ∧ ∀ j r, j ∈ (ms.getD i ⟨[], [], []⟩).ws → H'[j]? = some (some r) → NMRow (hid ops ms i) r) ∧ sOpsW C ops ms N rest (i + 1) (putT T o.dst v) H' K) ∧
      (b = false → sOpsW C ops ms N rest (i + 1) (putT T o.dst undef) H K)
def RunOf2 {P : Program} (C : Ctx P) (ops : Array Oper) (ms : List Meta) (N : Nat) (K : Tm → Heap → Prop) (l : List Oper) (q : Nat) (T : Tm) (H : Heap) : Prop :=
    ∃ (vs : Nat → Value) (Hs : Nat → Heap), Hs 0 = H ∧ (∀ i, i ≤ l.length → (Hs i).length = N) ∧ (∀ i o, l[i]? = some o → ∃ b, want? (TD l 0 vs (fun k => decide (k < i)) T) ops o = some b ∧
      (b = true → StepW C N (ms.getD (q + i) ⟨[], [], []⟩) (TD l 0 vs (fun k => decide (k < i)) T) (Hs i) o.op (vs i) (Hs (i + 1)) ∧ nmV (hid ops ms (q + i)) (vs i) = true ∧ ∀ j r, j ∈ (ms.getD (q + i) ⟨[], [], []⟩).ws → (Hs (i + 1))[j]? = some (some r) → NMRow (hid ops ms (q + i)) r) ∧
      (b = false → vs i = undef ∧ Hs (i + 1) = Hs i)) ∧ K (TD l 0 vs (fun k => decide (k < l.length)) T) (Hs l.length)
theorem run_of2 {P : Program} {C : Ctx P} {ops : Array Oper} {ms : List Meta} {N : Nat} {K : Tm → Heap → Prop} : ∀ (l : List Oper) (q : Nat) (T : Tm) (H : Heap), H.length = N → sOpsW C ops ms N l q T H K → RunOf2 C ops ms N K l q T H
  | [], q, T, H, hl, h => ⟨fun _ => undef, fun _ => H, rfl, fun _ _ => hl, fun i o hi => by simp at hi, h⟩
  | o :: r, q, T, H, hl, h => by
    have none' : ∀ (vs : Nat → Value) (l : List Oper) (k : Nat) (T : Tm), TD l k vs (fun _ => false) T = T := by
      intro vs l
      induction l with
      | nil => intro k T; rfl
      | cons a l ih => intro k T; rw [TD, if_neg (by simp), ih]
    have zero : ∀ (vs : Nat → Value), TD (o :: r) 0 vs (fun k => decide (k < 0)) T = T := fun vs => by
      have : (fun k => decide (k < 0)) = (fun _ : Nat => false) := by funext k; simp
      rw [this, none']
    have succ : ∀ (v : Value) (vs : Nat → Value) (i : Nat), TD (o :: r) 0 (fun j => match j with
        | 0 => v
        | j + 1 => vs j) (fun k => decide (k < i + 1)) T = TD r 0 vs (fun k => decide (k < i)) (putT T o.dst v) := fun v vs i => by
      rw [TD, if_pos (by simp), TD_shift]
      congr 1
      funext k
      simp
    simp only [sOpsW] at h
    split at h
    · exact h.elim
    · rename_i b hb
      have main : ∀ (v : Value) (H' : Heap), H'.length = N → sOpsW C ops ms N r (q + 1) (putT T o.dst v) H' K →
          ((b = true → StepW C N (ms.getD q ⟨[], [], []⟩) T H o.op v H' ∧ nmV (hid ops ms q) v = true ∧ ∀ j r, j ∈ (ms.getD q ⟨[], [], []⟩).ws → H'[j]? = some (some r) → NMRow (hid ops ms q) r) ∧ (b = false → v = undef ∧ H' = H)) → RunOf2 C ops ms N K (o :: r) q T H := by
        intro v H' hl' hk hst
        obtain ⟨vs, Hs, h0, hls, h1, h2⟩ := run_of2 r (q + 1) _ H' hl' hk
        refine ⟨fun j => match j with
          | 0 => v
          | j + 1 => vs j, fun j => match j with
          | 0 => H
          | j + 1 => Hs j, rfl, fun i hi => ?_, fun i o' hi => ?_, ?_⟩
        · cases i with
          | zero => exact hl
          | succ i => exact hls i (by simpa using hi)
        · cases i with
          | zero =>
            simp only [List.getElem?_cons_zero, Option.some.injEq] at hi
            subst hi
            rw [zero]
            refine ⟨b, hb, fun hbt => ?_, fun hbf => ?_⟩
            · show StepW C N (ms.getD q ⟨[], [], []⟩) T H o.op v (Hs 0) ∧ nmV (hid ops ms q) v = true ∧ ∀ j r, j ∈ (ms.getD q ⟨[], [], []⟩).ws → (Hs 0)[j]? = some (some r) → NMRow (hid ops ms q) r
              rw [h0]
              exact hst.1 hbt
            · show v = undef ∧ Hs 0 = H
              rw [h0]
              exact hst.2 hbf
          | succ i =>
            rw [succ]
            have := h1 i o' (by simpa using hi)
            rw [show q + 1 + i = q + (i + 1) by omega] at this
            exact this
        · rw [List.length_cons, succ]
          exact h2
      cases b with
      | true =>
        obtain ⟨v, H', hst, hk⟩ := h.1 rfl
        exact main v H' hst.1.1 hk ⟨fun _ => hst, fun h => by cases h⟩
      | false => exact main undef H hl (h.2 rfl) ⟨(fun h => by cases h), fun _ => ⟨rfl, rfl⟩⟩
theorem adv_pad {P : Program} {ρ0 ρ : Ren} {H0 H : Heap} {w0 w : World} (h : Adv P ρ0 H0 w0 ρ H w) (m : Nat) : Adv P ρ0 H0 w0 ρ (H ++ List.replicate m none) w := by
  have hsub : ∀ (i : Nat) (r : Row), (H ++ List.replicate m none)[i]? = some (some r) → H[i]? = some (some r) := fun i r hi => by
    rcases Nat.lt_or_ge i H.length with h1 | h1
    · rwa [List.getElem?_append_left h1] at hi
    · rw [List.getElem?_append_right h1, List.getElem?_replicate] at hi
      split at hi <;> simp at hi
  exact ⟨h.agree, by have := h.len; simp; omega, ⟨fun i r hi => h.rep.row i r (hsub i r hi), fun i j r s hi hj => h.rep.sep i j r s (hsub i r hi) (hsub j s hj), fun i r hi v hv k hk => by
    have := h.rep.cl i r (hsub i r hi) v hv k hk; simp; omega⟩, h.os, h.tape, h.output, h.size, h.frame, fun i r hi hr => h.fresh i r (hsub i r hi) hr⟩
theorem draw_sound2 {P : Program} {C : Ctx P} {ops : Array Oper} {ms : List Meta} {id m : Nat} {ρ0 ρ : Ren} {H0 H : Heap} {w0 w : World} {T : Tm} {a : Act} {K : Exit → Tm → Heap → Prop}
    (hOK : regionOK2 ops ms = true) (hlow : ∀ k, k < ops.size → ∀ i ∈ (ms.getD k ⟨[], [], []⟩).mks, H0.length ≤ i)
    (nmT : ∀ k, k < ops.size → ∀ (t : Nat) (v : Value), T[t]? = some (some v) → nmV (ms.getD k ⟨[], [], []⟩).mks v = true)
    (nmH : ∀ k, k < ops.size → ∀ (i : Nat) (r : Row), (H ++ List.replicate m none)[i]? = some (some r) → NMRow (ms.getD k ⟨[], [], []⟩).mks r)
    (hs : sOpsW C ops ms (H.length + m) ops.toList 0 T (H ++ List.replicate m none) (K .normal)) (hi : Inv P ρ0 H0 w0 ρ T H a w) : (Code.region id ops true).wp P (Post P ρ0 H0 w0 K) a w := by
  obtain ⟨vs, Hs, h0, hls, h1, h2⟩ := run_of2 _ 0 _ _ (by simp) hs
  simp only [Nat.zero_add] at h1
  have dr : DRun2 C ops ms (H.length + m) H0.length T vs Hs := ⟨hOK, hlow, fun k hk => hls k (by simpa using hk), fun i o hi => h1 i o (by simpa using hi), nmT, by rw [h0]; exact nmH⟩
  refine wp_region_any C.mixed ?_
  have hadv := adv_pad hi.adv m
  have hdrew := adv_drew hadv.rep { w with drawn := w.drawn + 1 } rfl rfl rfl rfl
  refine draw_any2 (ρ0 := ρ0) (H0 := H0) (w0 := w0) dr (fun ρ' a' w' h => ⟨ρ', _, _, h2, h⟩) ops.size _ ρ a _ ?_ ?_
  · simp
  · have none' : ∀ (l : List Oper) (k : Nat) (T : Tm), TD l k vs (fun k => (Array.replicate ops.size false).getD k false) T = T := by
      intro l
      induction l with
      | nil => intro k T; rfl
      | cons a l ih =>
        intro k T
        rw [TD, if_neg, ih]
        simp [Array.getElem?_replicate]
        split <;> simp
    have noH : ∀ k, HS (fun k => (ms.getD k ⟨[], [], []⟩).ws) Hs (fun k => (Array.replicate ops.size false).getD k false) k = Hs 0 := by
      intro k
      induction k with
      | zero => rfl
      | succ k ih =>
        rw [HS, if_neg, ih]
        simp [Array.getElem?_replicate]
        split <;> simp
    have nol : ∀ i, ¬ Lst (Array.replicate ops.size false) i := by
      intro i h
      unfold Lst at h
      simp only [Array.getD_eq_getD_getElem?, Array.getElem?_replicate] at h
      split at h <;> simp at h
    refine ⟨by simp, fun j o ho hl => absurd hl (nol j), by rw [noH, h0]; exact hadv.trans hdrew, ?_, hi.df⟩
    rw [none']
    exact ⟨hi.rt.size, hi.rt.at_, fun t v hv i hi' => by have := hi.rt.cl t v hv i hi'; omega⟩
end Go.Am
set_option linter.unusedVariables false
set_option linter.unusedSimpArgs false
namespace Go.Am
open Go.RowKit
def idsO (T : Tm) (x : Operand) : List Nat := match evalO T x with
  | some u => idsV u
  | none => []
def touch (T : Tm) : Op → List Nat
  | .load _ x => idsO T x
  | .store _ x _ => idsO T x
  | .slice _ x _ _ _ => idsO T x
  | .call c => c.args.toList.flatMap (idsO T)
  | _ => []
inductive Same2 (t : List Nat) (H G : Heap) : Heap → Heap → Prop
  | id : Same2 t H G H G
  | new (r : Row) : Same2 t H G (H ++ [some r]) (G ++ [some r])
  | set (b : Nat) (x : Option Row) : b ∈ t → Same2 t H G (H.set b x) (G.set b x)
  | app (b : Nat) (r : Row) : b ∈ t → Same2 t H G (H.set b none ++ [some r]) (G.set b none ++ [some r])
theorem row?_agree {H G : Heap} {b : Nat} (h : G[b]? = H[b]?) : row? G b = row? H b := by unfold row?; rw [h]
theorem idsO_mem {T : Tm} {x : Operand} {u : Value} {i : Nat} (hu : evalO T x = some u) (hi : i ∈ idsV u) : i ∈ idsO T x := by unfold idsO; rw [hu]; exact hi
section
variable {P : Program} {C : Ctx P}
theorem readS_agree {H G : Heap} {size : Nat} {x : Value} (h : ∀ b ∈ idsV x, G[b]? = H[b]?) : readS G size x = readS H size x := by
  unfold readS
  cases x with
  | slice a n c => cases a with
    | none => rfl
    | some a => simp only [row?_agree (h a.block (by simp [idsV, idsA, idsS, idsP]))]
  | _ => rfl
theorem opLoad_agree {H G : Heap} {t : TypeId} {x : Value} (h : ∀ b ∈ idsV x, G[b]? = H[b]?) : opLoad P G t x = opLoad P H t x := by
  unfold opLoad
  cases x with
  | pointer a => cases a with
    | none => rfl
    | some a => simp only [row?_agree (h a.block (by simp [idsV, idsA, idsS, idsP]))]
  | _ => rfl
theorem evOp_local {T : Tm} {H H1 : Heap} {op : Op} {v1 : Value} (h : evOp C T H op = some (v1, H1)) {G : Heap} (hlen : G.length = H.length) (hag : ∀ b ∈ touch T op, G[b]? = H[b]?) : ∃ G1, evOp C T G op = some (v1, G1) ∧ Same2 (touch T op) H G H1 G1 := by
  by_cases hp : isPure op = true
  · obtain ⟨rfl, h2⟩ := evOp_pure hp h
    exact ⟨G, h2 G, .id⟩
  cases op with
  | load t x =>
    simp only [evOp, Option.bind_eq_some_iff, Option.map_eq_some_iff, Prod.mk.injEq] at h
    obtain ⟨u, hu, r, hr, rfl, rfl⟩ := h
    refine ⟨G, ?_, .id⟩
    simp only [evOp, hu, Option.bind_some, opLoad_agree (P := P) (H := H) (G := G) (t := t) (x := u) fun b hb => hag b (by simpa only [touch] using idsO_mem hu hb), hr]
    rfl
  | slice t x lo hi mx =>
    cases mx with
    | some m => simp [evOp] at h
    | none =>
      simp only [evOp] at h
      split at h
      · rename_i u l hh hu hl hhh
        have key : ∀ a : Addr, a.block ∈ idsV u → row? G a.block = row? H a.block := fun a ha => row?_agree (hag _ (by simpa only [touch] using idsO_mem hu ha))
        have e : ∀ G1, opSlice P G t u l hh = some (v1, G1) → evOp C T G (.slice t x lo hi none) = some (v1, G1) := fun G1 hg => by
          simp only [evOp, hu, hl, hhh, hg]
        unfold opSlice at h
        split at h
        · rename_i s1 s2 z hti
          split at h
          · rename_i s
            split at h
            · rename_i l' h' hb1 hb2
              split at h
              · rename_i hc
                simp only [Option.some.injEq, Prod.mk.injEq] at h
                obtain ⟨rfl, rfl⟩ := h
                refine ⟨G, e _ ?_, .id⟩
                unfold opSlice
                simp only [hti, hb1, hb2]
                rw [if_pos hc]
              · cases h
            · cases h
          · cases h
        · rename_i n el s1 s2 z hti
          split at h
          · rename_i a
            split at h
            · rename_i r te hr hte
              split at h
              · rename_i hc
                simp only [Option.some.injEq, Prod.mk.injEq] at h
                obtain ⟨rfl, rfl⟩ := h
                refine ⟨G, e _ ?_, .id⟩
                have k := key a (by simp [idsV, idsA, idsS, idsP])
                unfold opSlice
                simp only [hti, k, hr, hte]
                rw [if_pos hc]
              · cases h
            · cases h
          · cases h
        · rename_i el s1 s2 z hti
          split at h
          · split at h
            · rename_i te hb1 hb2 hte
              simp only [Option.some.injEq, Prod.mk.injEq] at h
              obtain ⟨rfl, rfl⟩ := h
              refine ⟨G, e _ ?_, .id⟩
              unfold opSlice
              simp only [hti, hb1, hb2, hte]
            · cases h
          · rename_i a len c
            split at h
            · rename_i r te l' h' hr hte hb1 hb2
              have k := key a (by simp [idsV, idsA, idsS, idsP])
              split at h
              · rename_i hc
                split at h
                · rename_i hl'
                  simp only [Option.some.injEq, Prod.mk.injEq] at h
                  obtain ⟨rfl, rfl⟩ := h
                  refine ⟨G, e _ ?_, .id⟩
                  unfold opSlice
                  simp only [hti, k, hr, hte, hb1, hb2]
                  rw [if_pos hc, if_pos hl']
                · rename_i hl'
                  simp only [Option.some.injEq, Prod.mk.injEq] at h
                  obtain ⟨rfl, rfl⟩ := h
                  refine ⟨_, e _ ?_, .new _⟩
                  unfold opSlice
                  simp only [hti, k, hr, hte, hb1, hb2]
                  rw [if_pos hc, if_neg hl', hlen]
              · cases h
            · cases h
          · cases h
        · cases h
      · cases h
  | store t x y =>
    simp only [evOp] at h
    split at h
    · rename_i a u ha hu
      simp only [Option.map_eq_some_iff, Prod.mk.injEq] at h
      obtain ⟨H2, hs, rfl, rfl⟩ := h
      have key : ∀ b ∈ idsV a, row? G b = row? H b := fun b hb => row?_agree (hag b (by simpa only [touch] using idsO_mem ha hb))
      have e : ∀ G1, opStore P G t a u = some G1 → evOp C T G (.store t x y) = some (undef, G1) := fun G1 hg => by
        simp only [evOp, ha, hu, hg]
        rfl
      unfold opStore at hs
      split at hs
      · rename_i ad
        split at hs
        · rename_i r ti hr hti
          split at hs
          · rename_i hc
            simp only [Option.some.injEq] at hs
            subst hs
            refine ⟨_, e _ ?_, .set _ _ (by simp only [touch]; exact idsO_mem ha (by simp [idsV, idsA, idsS, idsP]))⟩
            have k := key ad.block (by simp [idsV, idsA, idsS, idsP])
            unfold opStore
            simp only [k, hr, hti]
            rw [if_pos hc]
          · cases hs
        · cases hs
      · cases hs
    · cases h
  | alloc t =>
    simp only [evOp] at h
    unfold opAlloc at h
    repeat' split at h
    all_goals first | (cases h; done) | skip
    all_goals (simp only [Option.some.injEq, Prod.mk.injEq] at h; obtain ⟨rfl, rfl⟩ := h)
    refine ⟨_, ?_, .new _⟩
    simp only [evOp]
    unfold opAlloc
    simp_all
  | box t x =>
    simp only [evOp, Option.bind_eq_some_iff] at h
    obtain ⟨u, hu, h⟩ := h
    unfold opBox at h
    split at h
    · rename_i hc
      simp only [Option.some.injEq, Prod.mk.injEq] at h
      obtain ⟨rfl, rfl⟩ := h
      refine ⟨_, ?_, .new _⟩
      simp only [evOp, hu, Option.bind_some]
      unfold opBox
      rw [if_pos hc, hlen]
    · cases h
  | makeSlice t x y =>
    simp only [evOp] at h
    split at h
    · rename_i u w hu hw
      have e : ∀ G1, opMake P G t u w = some (v1, G1) → evOp C T G (.makeSlice t x y) = some (v1, G1) := fun G1 hg => by
        simp only [evOp, hu, hw, hg]
      unfold opMake at h
      split at h
      · rename_i k n k' m el _ _ _ hti
        split at h
        · rename_i te hte
          split at h
          · rename_i hc
            simp only [Option.some.injEq, Prod.mk.injEq] at h
            obtain ⟨rfl, rfl⟩ := h
            refine ⟨_, e _ ?_, .new _⟩
            unfold opMake
            simp only [hti, hte]
            rw [if_pos hc, hlen]
          · cases h
        · cases h
      · cases h
    · cases h
  | buildSlice t n ps =>
    simp only [evOp, Option.bind_eq_some_iff] at h
    obtain ⟨l, hl, h⟩ := h
    have e : ∀ G1, opBuildSlice P G t n l = some (v1, G1) → evOp C T G (.buildSlice t n ps) = some (v1, G1) := fun G1 hg => by
      simp only [evOp, hl, Option.bind_some, hg]
    unfold opBuildSlice at h
    split at h
    · rename_i el _ _ _ hti
      split at h
      · rename_i te hte
        split at h
        · rename_i hc
          simp only [Option.map_eq_some_iff, Prod.mk.injEq] at h
          obtain ⟨cs, hcs, rfl, rfl⟩ := h
          refine ⟨_, e _ ?_, .new _⟩
          unfold opBuildSlice
          simp only [hti, hte]
          rw [if_pos hc, hcs, hlen]
          rfl
        · cases h
      · cases h
    · cases h
  | call c =>
    obtain ⟨callee, args, tys⟩ := c
    cases callee with
    | builtin b =>
      cases b <;> first | (simp [isPure] at hp; done) | skip
      all_goals first | (simp [evOp] at h; done) | skip
      simp only [evOp] at h
      repeat' split at h
      all_goals first | (cases h; done) | skip
      rename_i x y t t' hargs htys htt _ _ u w hu hw
      subst htt
      have key : ∀ b, (b ∈ idsV u ∨ b ∈ idsV w) → G[b]? = H[b]? := fun b hb => by
        refine hag b ?_
        simp only [touch, hargs, List.flatMap_cons, List.flatMap_nil, List.append_nil, List.mem_append]
        rcases hb with hb | hb
        · exact Or.inl (idsO_mem hu hb)
        · exact Or.inr (idsO_mem hw hb)
      have hmem : ∀ b, b ∈ idsV u → b ∈ touch T (.call ⟨.builtin .append, args, tys⟩) := fun b hb => by
        simp only [touch, hargs, List.flatMap_cons, List.flatMap_nil, List.append_nil, List.mem_append]
        exact Or.inl (idsO_mem hu hb)
      have e : ∀ G1, opAppend P G t u w = some (v1, G1) → evOp C T G (.call ⟨.builtin .append, args, tys⟩) = some (v1, G1) := fun G1 hg => by
        simp only [evOp, hargs, htys, hu, hw, if_true, hg]
      have kr : ∀ a : Addr, a.block ∈ idsV u → row? G a.block = row? H a.block := fun a ha => row?_agree (key _ (Or.inl ha))
      have ks : ∀ n, readS G n w = readS H n w := fun n => readS_agree fun b hb => key b (Or.inr hb)
      unfold opAppend at h
      split at h
      · rename_i el _ _ _ hti
        split at h
        · rename_i te hte
          split at h
          · rename_i hc
            split at h
            · simp only [Option.some.injEq, Prod.mk.injEq] at h
              obtain ⟨rfl, rfl⟩ := h
              refine ⟨G, e _ ?_, .id⟩
              unfold opAppend
              simp only [hti, hte]
              rw [if_pos hc]
            · split at h
              · rename_i l hl
                have k := ks te.size
                split at h
                · rename_i hm
                  simp only [Option.some.injEq, Prod.mk.injEq] at h
                  obtain ⟨rfl, rfl⟩ := h
                  refine ⟨G, e _ ?_, .id⟩
                  unfold opAppend
                  simp only [hti, hte, k, hl]
                  rw [if_pos hc, if_pos hm]
                · rename_i hm
                  split at h
                  · rename_i hb
                    simp only [Option.some.injEq, Prod.mk.injEq] at h
                    obtain ⟨rfl, rfl⟩ := h
                    refine ⟨_, e _ ?_, .new _⟩
                    unfold opAppend
                    simp only [hti, hte, k, hl]
                    rw [if_pos hc, if_neg hm, if_pos hb, hlen]
                  · cases h
              · cases h
            · rename_i b n
              have k := kr b (by simp [idsV, idsA, idsS, idsP])
              split at h
              · rename_i r hr
                split at h
                · rename_i hb
                  simp only [Option.some.injEq, Prod.mk.injEq] at h
                  obtain ⟨rfl, rfl⟩ := h
                  refine ⟨G, e _ ?_, .id⟩
                  unfold opAppend
                  simp only [hti, hte, k, hr]
                  rw [if_pos hc, if_pos hb]
                · cases h
              · cases h
            · rename_i b n a m c
              have k := kr b (by simp [idsV, idsA, idsS, idsP])
              have k2 := ks te.size
              split at h
              · rename_i r l hr hl
                split at h
                · rename_i hb
                  simp only [Option.some.injEq, Prod.mk.injEq] at h
                  obtain ⟨rfl, rfl⟩ := h
                  refine ⟨_, e _ ?_, .app _ _ (hmem _ (by simp [idsV, idsA, idsS, idsP]))⟩
                  unfold opAppend
                  simp only [hti, hte, k, k2, hr, hl]
                  rw [if_pos hc, if_pos hb, hlen]
                · cases h
              · cases h
            · cases h
          · cases h
        · cases h
      · cases h
    | _ => simp [evOp] at h
  | _ => first | (simp [isPure] at hp; done) | (simp [evOp] at h; done)
theorem Same2.pt {t : List Nat} {H G H1 G1 : Heap} {N : Nat} (s : Same2 t H G H1 G1) (hN : H.length = N) (hG : G.length = N) (hag : ∀ b ∈ t, G[b]? = H[b]?) :
    G1.length = H1.length ∧ (∀ i, i ∉ t → i < N → G1[i]? = G[i]?) ∧ (∀ i, i ∈ t ∨ N ≤ i → G1[i]? = H1[i]?) := by
  have base : ∀ i, i ∈ t ∨ N ≤ i → G[i]? = H[i]? := fun i hi => by
    rcases hi with hi | hi
    · exact hag i hi
    · rw [List.getElem?_eq_none (by omega), List.getElem?_eq_none (by omega)]
  have bset : ∀ b x i, i ∈ t ∨ N ≤ i → (G.set b x)[i]? = (H.set b x)[i]? := fun b x i hi => by
    rw [List.getElem?_set, List.getElem?_set, base i hi, hN, hG]
  have bnew : ∀ (G H : Heap) r i, G.length = N → H.length = N → (i ∈ t ∨ N ≤ i → G[i]? = H[i]?) → i ∈ t ∨ N ≤ i → (G ++ [some r])[i]? = (H ++ [some r])[i]? := fun G H r i h1 h2 h3 hi => by
    rcases Nat.lt_or_ge i N with h | h
    · rw [List.getElem?_append_left (by omega), List.getElem?_append_left (by omega)]; exact h3 hi
    · rw [List.getElem?_append_right (by omega), List.getElem?_append_right (by omega), h1, h2]
  cases s with
  | id => exact ⟨by rw [hN, hG], fun i _ _ => rfl, base⟩
  | new r => exact ⟨by simp [hN, hG], fun i _ hi => List.getElem?_append_left (by omega), fun i hi => bnew G H r i hG hN (base i) hi⟩
  | set b x hb => exact ⟨by simp [hN, hG], fun i hi _ => List.getElem?_set_ne (fun e : b = i => hi (e ▸ hb)), fun i hi => bset b x i hi⟩
  | app b r hb =>
    refine ⟨by simp [hN, hG], fun i hi hiN => ?_, fun i hi => bnew _ _ r i (by simp [hG]) (by simp [hN]) (bset b none i) hi⟩
    rw [List.getElem?_append_left (by simp [hG, hiN]), List.getElem?_set_ne (fun e : b = i => hi (e ▸ hb))]
theorem stGen {N : Nat} {m : Meta} {T : Tm} {H H1 H' : Heap} {op : Op} {v v1 : Value} (σ : Nat → Nat) (h : evOp C T H op = some (v1, H1)) (hN : H.length = N) (ht : ((touch T op).all fun i => m.wr.contains i || m.rd.contains i) = true) (hσ : ∀ i, i ∉ m.mks → σ i = i) (hv1 : v1 = mpV (renId σ) v)
    (hinj : ∀ i j, i < N → j < N → σ i = σ j → i = j) (hH' : H'.length = N) (hfr : ∀ i, i ∉ m.ws → H'[i]? = H[i]?) (hv : ((idsV v).all fun i => decide (i < N)) = true) (hcl : ∀ i r, i ∈ m.ws → H'[i]? = some (some r) → ∀ v ∈ r.cells, ∀ k ∈ idsS v, k < N)
    (hwr : ∀ i, i ∉ m.ws → i < N → H1[i]? = H[i]?) (hnew : ∀ i r, i ∈ m.ws → H'[i]? = some (some r) → H1[σ i]? = some (some (renRow σ r)) ∧ (σ i ∈ touch T op ∨ N ≤ σ i)) : StepW C N m T H op v H' := by
  simp only [List.all_eq_true, decide_eq_true_eq, Bool.or_eq_true, List.contains_eq_mem] at hv ht
  refine ⟨hH', hfr, hv, hcl, fun T' G hT hG hag => ?_⟩
  have hsub : ∀ b ∈ touch T op, G[b]? = H[b]? := fun b hb => hag b (by
    rcases ht b hb with h1 | h1
    · exact List.mem_append_left _ (List.mem_append_right _ h1)
    · exact List.mem_append_right _ h1)
  obtain ⟨G1, hg, hs⟩ := evOp_local h (hG.trans hN.symm) hsub
  obtain ⟨p1, p2, p3⟩ := hs.pt hN hG hsub
  rw [evOp_congr (T' := T') fun x hx => hT x (by simpa using hx)] at hg
  refine ⟨v1, G1, σ, .op hg, hσ, hv1, fun i hi hiN => ?_, fun i r hi hr => ?_, hinj⟩
  · by_cases hit : i ∈ touch T op
    · rw [p3 i (Or.inl hit), hwr i hi hiN, hsub i hit]
    · exact p2 i hit hiN
  · obtain ⟨h1, h2⟩ := hnew i r hi hr
    rw [p3 _ h2, h1]
theorem ren_id {v : Value} (h : nmV [] v = true) : v = mpV (renId id) v := (nmV_fix (mk := []) (fun _ _ => rfl) h).symm
theorem stId {N : Nat} {rd : List Nat} {T : Tm} {H : Heap} {op : Op} {v : Value} (h : evOp C T H op = some (v, H)) (hN : H.length = N) (ht : ((touch T op).all fun i => rd.contains i) = true) (hv : ((idsV v).all fun i => decide (i < N)) = true) (hn : nmV [] v = true) : StepW C N ⟨[], [], rd⟩ T H op v H := by
  refine stGen id h hN ?_ (fun _ _ => rfl) (ren_id hn) (fun i j _ _ h => h) hN (fun _ _ => rfl) hv (fun i r hi => by simp [Meta.ws] at hi) (fun _ _ _ => rfl) (fun i r hi => by simp [Meta.ws] at hi)
  simpa using ht
def toEnd (i N : Nat) : Nat → Nat := fun j => if j = i then N else j
theorem toEnd_inj {i N : Nat} {a b : Nat} (ha : a < N) (hb : b < N) (h : toEnd i N a = toEnd i N b) : a = b := by
  unfold toEnd at h
  split at h <;> split at h <;> omega
theorem stNew {N i : Nat} {rd : List Nat} {T : Tm} {H : Heap} {op : Op} {v v1 : Value} {r : Row} (h : evOp C T H op = some (v1, H ++ [some r])) (hN : H.length = N) (ht : ((touch T op).all fun i => rd.contains i) = true) (hi : decide (i < N) = true)
    (hv1 : v1 = mpV (renId (toEnd i N)) v) (hv : ((idsV v).all fun i => decide (i < N)) = true) (hr : NMRow [i] r) (hcl : ∀ q, some r = some q → ∀ v ∈ q.cells, ∀ k ∈ idsS v, k < N) : StepW C N ⟨[i], [], rd⟩ T H op v (H.set i (some r)) := by
  simp only [decide_eq_true_eq] at hi
  have hfix : ∀ j, j ∉ [i] → toEnd i N j = j := fun j hj => by unfold toEnd; rw [if_neg (by simpa using hj)]
  refine stGen (toEnd i N) h hN (by simpa using ht) hfix hv1 (fun a b ha hb h => toEnd_inj ha hb h) (by simp [hN]) (fun j hj => ?_) hv (fun j q hj hq => ?_) (fun j hj hjN => List.getElem?_append_left (by omega)) (fun j q hj hq => ?_)
  · exact List.getElem?_set_ne (fun e => hj (by simp [Meta.ws, e]))
  · obtain rfl : j = i := by simpa [Meta.ws] using hj
    rw [List.getElem?_set_self (by omega)] at hq
    exact hcl q (by simpa using hq)
  · obtain rfl : j = i := by simpa [Meta.ws] using hj
    rw [List.getElem?_set_self (by omega)] at hq
    simp only [Option.some.injEq] at hq
    subst hq
    have e : toEnd j N j = N := by unfold toEnd; rw [if_pos rfl]
    rw [e, hr.ren hfix, List.getElem?_append_right (by omega), hN]
    simp
theorem stSet {N b : Nat} {rd : List Nat} {T : Tm} {H : Heap} {op : Op} {r : Row} {v : Value} (h : evOp C T H op = some (v, H.set b (some r))) (hN : H.length = N) (ht : ((touch T op).all fun i => [b].contains i || rd.contains i) = true) (hb : ((touch T op).contains b && decide (b < N)) = true)
    (hv : ((idsV v).all fun i => decide (i < N)) = true) (hn : nmV [] v = true) (hr : NMRow [] r) (hcl : ∀ q, some r = some q → ∀ v ∈ q.cells, ∀ k ∈ idsS v, k < N) : StepW C N ⟨[], [b], rd⟩ T H op v (H.set b (some r)) := by
  simp only [Bool.and_eq_true, decide_eq_true_eq, List.contains_eq_mem] at hb
  refine stGen id h hN ht (fun _ _ => rfl) (ren_id hn) (fun i j _ _ h => h) (by simp [hN]) (fun j hj => ?_) hv (fun j q hj hq => ?_) (fun j hj hjN => ?_) (fun j q hj hq => ?_)
  · exact List.getElem?_set_ne (fun e => hj (by simp [Meta.ws, e]))
  · obtain rfl : j = b := by simpa [Meta.ws] using hj
    rw [List.getElem?_set_self (by omega)] at hq
    exact hcl q (by simpa using hq)
  · exact List.getElem?_set_ne (fun e => hj (by simp [Meta.ws, e]))
  · obtain rfl : j = b := by simpa [Meta.ws] using hj
    refine ⟨?_, Or.inl hb.1⟩
    have hq2 := hq
    rw [List.getElem?_set_self (by omega)] at hq2
    simp only [Option.some.injEq] at hq2
    subst hq2
    show (H.set j (some r))[j]? = _
    rw [hr.ren (σ := id) (fun _ _ => rfl)]
    exact hq
def Any (N : Nat) (rd : List Nat) (H : Heap) (p : Heap → Prop) : Prop := ∀ G : Heap, G.length = N → (∀ i, i ∈ rd → G[i]? = H[i]?) → p G
variable {ops : Array Oper} {ms : List Meta} {N : Nat}
theorem rW {i : Nat} {K : Tm → Heap → Prop} {o : Oper} {r : List Oper} {T : Tm} {H H' : Heap} {v : Value} {m : Meta} (hm : ms.getD i ⟨[], [], []⟩ = m) (hw : want? T ops o = some true) (hst : StepW C N m T H o.op v H') (hn : nmV (hid ops ms i) v = true)
    (hr : ∀ j q, j ∈ m.ws → H'[j]? = some (some q) → NMRow (hid ops ms i) q) (hk : sOpsW C ops ms N r (i + 1) (putT T o.dst v) H' K) : sOpsW C ops ms N (o :: r) i T H K := by
  subst hm
  simp only [sOpsW, hw]
  exact ⟨fun _ => ⟨v, H', ⟨hst, hn, hr⟩, hk⟩, fun h => by cases h⟩
def NRs (hl : List Nat) (H : Heap) : List Nat → Prop
  | [] => True
  | j :: l => (∀ q, H[j]? = some (some q) → NMRow hl q) ∧ NRs hl H l
theorem NRs.all {hl : List Nat} {H : Heap} : ∀ {l : List Nat}, NRs hl H l → ∀ j q, j ∈ l → H[j]? = some (some q) → NMRow hl q
  | [], _, j, q, hj, _ => by simp at hj
  | i :: l, h, j, q, hj, hq => by
    rcases List.mem_cons.1 hj with rfl | hj
    · exact h.1 q hq
    · exact h.2.all j q hj hq
def NMs (mk : List Nat) : Heap → Prop
  | [] => True
  | o :: l => (∀ r, o = some r → NMRow mk r) ∧ NMs mk l
theorem NMs.at {mk : List Nat} : ∀ {l : Heap} {i : Nat} {r : Row}, NMs mk l → l[i]? = some (some r) → NMRow mk r
  | [], i, r, _, h => by simp at h
  | o :: l, 0, r, h, hi => by simp at hi; exact h.1 r hi
  | o :: l, i + 1, r, h, hi => NMs.at h.2 (by simpa using hi)
theorem nmsX {mk : List Nat} {r : Row} (h : (r.cells.all (nmS mk)) = true) : ∀ q, some r = some q → NMRow mk q := fun q hq => by simp only [Option.some.injEq] at hq; subst hq; exact nmX h
theorem nmsN {mk : List Nat} : ∀ q, (none : Option Row) = some q → NMRow mk q := fun q hq => by cases hq
theorem cRegW {id n : Nat} {T : Tm} {H Hp : Heap} {K : Exit → Tm → Heap → Prop} (ms : List Meta) (m : Nat) (all : List Nat) (hlen : H.length + m = N) (hpad : H ++ List.replicate m none = Hp) (hOK : regionOK2 ops ms = true) (hlow : (ms.all fun x => x.mks.all fun i => decide (n ≤ i) && all.contains i) = true)
    (hT : (T.all fun o => match o with
      | some v => nmV all v
      | none => true) = true) (hH : NMs all H) (h : sOpsW C ops ms N ops.toList 0 T Hp (Less K .normal)) : sC C n (.region id ops true) T H K := by
  simp only [List.all_eq_true, Bool.and_eq_true, decide_eq_true_eq, List.contains_eq_mem] at hlow
  refine Or.inr fun ρ0 ρ H0 w0 w a hn hi => ?_
  have hmk : ∀ k, ∀ i ∈ (ms.getD k ⟨[], [], []⟩).mks, n ≤ i ∧ i ∈ all := fun k i hi => by
    rcases Nat.lt_or_ge k ms.length with hk | hk
    · rw [List.getD_eq_getElem?_getD, List.getElem?_eq_getElem hk] at hi
      exact hlow _ (List.getElem_mem hk) i hi
    · rw [List.getD_eq_getElem?_getD, List.getElem?_eq_none hk] at hi
      simp at hi
  subst hpad hlen
  refine draw_sound2 (K := Less K) (m := m) (ms := ms) hOK (fun k _ i hi => by rw [hn]; exact (hmk k i hi).1) (fun k _ t v hv => ?_) (fun k _ i r hr => ?_) h hi
  · have := List.all_eq_true.1 hT (some v) (List.mem_of_getElem? hv)
    exact nmV_mono (fun i hi => (hmk k i hi).2) this
  · rcases Nat.lt_or_ge i H.length with h1 | h1
    · rw [List.getElem?_append_left h1] at hr
      exact (hH.at hr).mono fun i hi => (hmk k i hi).2
    · rw [List.getElem?_append_right h1, List.getElem?_replicate] at hr
      split at hr <;> simp at hr
theorem segH {K : Tm → Heap → Prop} {T1 : Tm} (k : Nat) {l : List Oper} {T : Tm} {H : Heap} (h : evR C ops k l T H = some (T1, H)) (hk : sOps C ops (l.drop k) T1 H K) : sOps C ops l T H K := seg k h hk
theorem segEndH {K : Exit → Tm → Heap → Prop} (ks : List Nat) {T1 : Tm} {l : List Oper} {T : Tm} {H : Heap}
    (h : ((evR C ops l.length l T H).map fun p => (keepT ks p.1, p.2)) = some (T1, H)) (hk : K .normal T1 H) : sOps C ops l T H (Less K .normal) := segEnd ks h hk
end
end Go.Am
set_option linter.unusedVariables false
set_option linter.unusedSimpArgs false
namespace Go.Am
open Go.RowKit
section
variable {P : Program}
def msGo (C : Ctx P) (ops : Array Oper) : List Oper → Tm → Heap → List Meta
  | [], _, _ => []
  | o :: r, T, H => match want? T ops o with
    | some true => match evOp C T H o.op with
      | some (v, H') => (if H.length < H'.length then ⟨[H.length], [], []⟩ else match o.op with
        | .store _ _ _ => ⟨[], touch T o.op, []⟩
        | _ => ⟨[], [], touch T o.op⟩) :: msGo C ops r (putT T o.dst v) H'
      | none => []
    | some false => ⟨[], [], []⟩ :: msGo C ops r (putT T o.dst undef) H
    | none => []
def exWops (C : Ctx P) (ops : Array Oper) (ms : List Meta) (N : Nat) : List Oper → Nat → Tm → Heap → Option (Tm × Heap)
  | [], _, T, H => some (T, H)
  | o :: r, i, T, H => match want? T ops o with
    | some true => match evOp C T H o.op with
      | some (v, H') => match ms.getD i ⟨[], [], []⟩ with
        | ⟨[], [], rd⟩ => if ((isPure o.op || (isRead o.op && H'.length == H.length)) && ((touch T o.op).all fun i => rd.contains i) && ((idsV v).all fun i => decide (i < N)) && nmV (hid ops ms i) v && (H.length == N)) = true then exWops C ops ms N r (i + 1) (putT T o.dst v) H else none
        | ⟨[j], [], rd⟩ => match v, H'[N]? with
          | .pointer (some ⟨b, 0, none⟩), some (some q) => if (b == N && (touch T o.op).isEmpty && H'.length == N + 1 && H.length == N && decide (j < N) && q.cells.all flat && nmV (hid ops ms i) (.pointer (some ⟨j, 0, none⟩))) = true then exWops C ops ms N r (i + 1) (putT T o.dst (.pointer (some ⟨j, 0, none⟩))) (H.set j (some q)) else none
          | _, _ => none
        | ⟨[], [b], rd⟩ => match H'[b]? with
          | some (some q) => if (touch T o.op == [b] && H'.length == N && H.length == N && decide (b < N) && q.cells.all flat && ((idsV v).all fun i => decide (i < N)) && nmV (hid ops ms i) v) = true then exWops C ops ms N r (i + 1) (putT T o.dst v) (H.set b (some q)) else none
          | _ => none
        | _ => none
      | none => none
    | some false => exWops C ops ms N r (i + 1) (putT T o.dst undef) H
    | none => none
theorem exWops_sound {C : Ctx P} {ops : Array Oper} {ms : List Meta} {N : Nat} {K : Tm → Heap → Prop} {T1 : Tm} {H1 : Heap} (hk : K T1 H1) : ∀ (l : List Oper) (i : Nat) (T : Tm) (H : Heap), exWops C ops ms N l i T H = some (T1, H1) → sOpsW C ops ms N l i T H K
  | [], i, T, H, h => by simp only [exWops, Option.some.injEq, Prod.mk.injEq] at h; obtain ⟨rfl, rfl⟩ := h; simpa only [sOpsW] using hk
  | o :: r, i, T, H, h => by
    simp only [exWops] at h
    split at h
    · rename_i hw
      split at h
      · rename_i v H' he
        split at h
        · rename_i rd hm
          split at h
          · rename_i hc
            simp only [Bool.and_eq_true, Bool.or_eq_true, beq_iff_eq] at hc
            obtain ⟨⟨⟨⟨hpr, ht⟩, hv⟩, hn⟩, hN⟩ := hc
            have hH : H' = H := by
              rcases hpr with hp | ⟨hr, hl⟩
              · exact (evOp_pure hp he).1
              · exact evOp_slice_len hr he hl
            subst hH
            exact rW hm hw (stId he hN ht hv (nmV_mono (fun _ h => by simp at h) hn)) hn (fun j q hj => by simp [Meta.ws] at hj) (exWops_sound hk r _ _ _ h)
          · cases h
        · rename_i j rd hm
          split at h
          · rename_i b q hq
            split at h
            · rename_i hc
              simp only [Bool.and_eq_true, beq_iff_eq, decide_eq_true_eq, List.isEmpty_iff] at hc
              obtain ⟨⟨⟨⟨⟨⟨hb, ht⟩, hl⟩, hN⟩, hj⟩, hf⟩, hn⟩ := hc
              subst hb
              have hfl : FlatRow q := flatRow_of hf
              obtain ⟨G1, hg, hs⟩ := evOp_local he (G := H) rfl (fun _ _ => rfl)
              have hH : H' = H ++ [some q] := by
                cases hs with
                | id => omega
                | new r2 =>
                  rw [← hN, List.getElem?_append_right (Nat.le_refl _), Nat.sub_self] at hq
                  simp at hq; rw [hq]
                | set b2 x hb2 => rw [ht] at hb2; simp at hb2
                | app b2 r2 hb2 => rw [ht] at hb2; simp at hb2
              subst hH
              refine rW hm hw (stNew (v := .pointer (some ⟨j, 0, none⟩)) he hN (by rw [ht]; rfl) (by simpa using hj) ?_ (by simpa [idsV, idsA, idsS, idsP] using hj) (nmF hfl) fun q2 hq2 v hv k hk2 => ?_) hn (fun j2 q2 hj2 hq2 => ?_) (exWops_sound hk r _ _ _ h)
              · simp [mpV, mpA, mpS, mpP, renId, toEnd]
              · simp only [Option.some.injEq] at hq2; subst hq2; rw [(hfl v hv).1] at hk2; cases hk2
              · obtain rfl : j2 = j := by simpa [Meta.ws] using hj2
                rw [List.getElem?_set_self (by omega)] at hq2
                simp only [Option.some.injEq] at hq2
                subst hq2; exact nmF hfl
            · cases h
          · cases h
        · rename_i b rd hm
          split at h
          · rename_i q hq
            split at h
            · rename_i hc
              simp only [Bool.and_eq_true, beq_iff_eq, decide_eq_true_eq] at hc
              obtain ⟨⟨⟨⟨⟨⟨ht, hl⟩, hN⟩, hb⟩, hf⟩, hv⟩, hn⟩ := hc
              have hfl : FlatRow q := flatRow_of hf
              obtain ⟨G1, hg, hs⟩ := evOp_local he (G := H) rfl (fun _ _ => rfl)
              have hH : H' = H.set b (some q) := by
                cases hs with
                | id =>
                  apply List.ext_getElem? ; intro k
                  rw [List.getElem?_set]
                  by_cases e : b = k
                  · subst e; rw [if_pos rfl, if_pos (by omega)]; exact hq
                  · rw [if_neg e]
                | new r2 => simp at hl; omega
                | set b2 x hb2 =>
                  rw [ht] at hb2
                  obtain rfl : b2 = b := by simpa using hb2
                  rw [List.getElem?_set_self (by omega)] at hq
                  simp only [Option.some.injEq] at hq
                  rw [hq]
                | app b2 r2 hb2 => simp at hl; omega
              subst hH
              refine rW hm hw (stSet he hN (by rw [ht]; simp) (by rw [ht]; simpa using hb) hv (nmV_mono (fun _ h => by simp at h) hn) (nmF hfl) fun q2 hq2 v hv k hk2 => ?_) hn (fun j2 q2 hj2 hq2 => ?_) (exWops_sound hk r _ _ _ h)
              · simp only [Option.some.injEq] at hq2; subst hq2; rw [(hfl v hv).1] at hk2; cases hk2
              · obtain rfl : j2 = b := by simpa [Meta.ws] using hj2
                rw [List.getElem?_set_self (by omega)] at hq2
                simp only [Option.some.injEq] at hq2
                subst hq2; exact nmF hfl
            · cases h
          · cases h
        · cases h
      · cases h
    · rename_i hw
      simp only [sOpsW, hw]
      exact ⟨fun h => (by cases h), fun _ => exWops_sound hk r _ _ _ h⟩
    · cases h
theorem nmsAll {all : List Nat} : ∀ {H : Heap}, (H.all fun o => match o with
    | some r => r.cells.all (nmS all)
    | none => true) = true → NMs all H
  | [], _ => trivial
  | some r :: H, h => by
    simp only [List.all_cons, Bool.and_eq_true] at h
    exact ⟨nmsX h.1, nmsAll h.2⟩
  | none :: H, h => by
    simp only [List.all_cons, Bool.and_eq_true] at h
    exact ⟨nmsN, nmsAll h.2⟩
def regionW (C : Ctx P) (n : Nat) (ops : Array Oper) (T : Tm) (H : Heap) : Option (Tm × Heap) :=
  let ms := msGo C ops ops.toList T H
  let all := ms.flatMap fun x => x.mks
  if (regionOK2 ops ms && (ms.all fun x => x.mks.all fun i => decide (n ≤ i) && all.contains i) && (T.all fun o => match o with
      | some v => nmV all v
      | none => true) && (H.all fun o => match o with
      | some r => r.cells.all (nmS all)
      | none => true)) = true then exWops C ops ms (H.length + all.length) ops.toList 0 T (H ++ List.replicate all.length none) else none
theorem regionW_sound {C : Ctx P} {id n : Nat} {ops : Array Oper} {T T' : Tm} {H H' : Heap} {K : Exit → Tm → Heap → Prop} (h : regionW C n ops T H = some (T', H')) (hk : K .normal T' H') : sC C n (.region id ops true) T H K := by
  unfold regionW at h
  simp only at h
  split at h
  · rename_i hc
    simp only [Bool.and_eq_true] at hc
    obtain ⟨⟨⟨h1, h2⟩, h3⟩, h4⟩ := hc
    exact cRegW _ _ _ rfl rfl h1 (by simpa only [Bool.and_eq_true] using h2) h3 (nmsAll h4) (exWops_sound (K := Less K .normal) ⟨_, SubT.refl _, hk⟩ _ _ _ _ h)
  · cases h
def exC2 (C : Ctx P) (call : CallF) (n fuel : Nat) : Code → Tm → Heap → Option (Exit × Tm × Heap)
  | .skip, T, H => some (.normal, T, H)
  | .region _ ops false, T, H => match exOps C call ops ops.toList T H with
    | some (T', H') => some (.normal, T', H')
    | none => none
  | .region _ ops true, T, H => if regionOK C ops = true then (match exOpsD C call ops ops.toList T H with
    | some (T', H') => some (.normal, T', H')
    | none => none) else (match regionW C n ops T H with
    | some (T', H') => some (.normal, T', H')
    | none => none)
  | .seq a b, T, H => match exC2 C call n fuel a T H with
    | some (.normal, T', H') => exC2 C call n fuel b T' H'
    | r => r
  | .cond c a b, T, H => match evalO T c with
    | some (.bool true) => exC2 C call n fuel a T H
    | some (.bool false) => exC2 C call n fuel b T H
    | _ => none
  | .block id c, T, H => match exC2 C call n fuel c T H with
    | some (.exit i, T', H') => if i = id then some (.normal, T', H') else some (.exit i, T', H')
    | r => r
  | .loop c, T, H => exLoop (exC2 C call n fuel c) fuel T H
  | .exit id, T, H => some (.exit id, T, H)
  | .ret, T, H => some (.ret, T, H)
  | _, _, _ => none
theorem exC2_sound {C : Ctx P} {call : CallF} (hc : CallOK P call) {n fuel : Nat} : ∀ (c : Code) (T : Tm) (H : Heap) (K : Exit → Tm → Heap → Prop) (e : Exit) (T' : Tm) (H' : Heap), exC2 C call n fuel c T H = some (e, T', H') → K e T' H' → sC C n c T H K
  | .skip, T, H, K, e, T', H', h, hk => by simp only [exC2, Option.some.injEq, Prod.mk.injEq] at h; obtain ⟨rfl, rfl, rfl⟩ := h; exact hk
  | .region id ops false, T, H, K, e, T', H', h, hk => by
    simp only [exC2] at h
    split at h
    · rename_i T1 H1 ho
      simp only [Option.some.injEq, Prod.mk.injEq] at h
      obtain ⟨rfl, rfl, rfl⟩ := h
      exact exOps_sound hc (K := Less K .normal) ⟨_, SubT.refl _, hk⟩ _ _ _ ho
    · cases h
  | .region id ops true, T, H, K, e, T', H', h, hk => by
    simp only [exC2] at h
    split at h
    · rename_i hok
      split at h
      · rename_i T1 H1 ho
        simp only [Option.some.injEq, Prod.mk.injEq] at h
        obtain ⟨rfl, rfl, rfl⟩ := h
        exact Or.inl ⟨hok, exOpsD_sound hc (K := Less K .normal) ⟨_, SubT.refl _, hk⟩ _ _ _ ho⟩
      · cases h
    · split at h
      · rename_i T1 H1 ho
        simp only [Option.some.injEq, Prod.mk.injEq] at h
        obtain ⟨rfl, rfl, rfl⟩ := h
        exact regionW_sound ho hk
      · cases h
  | .seq a b, T, H, K, e, T', H', h, hk => by
    simp only [exC2] at h
    split at h
    · rename_i T1 H1 ha
      exact exC2_sound hc a _ _ _ _ _ _ ha (exC2_sound hc b _ _ _ _ _ _ h hk)
    · rename_i hn
      refine exC2_sound hc a _ _ _ _ _ _ h ?_
      cases e with
      | normal => exact absurd h (by intro h; exact hn _ _ h)
      | _ => exact hk
  | .cond c a b, T, H, K, e, T', H', h, hk => by
    simp only [exC2] at h
    split at h
    · rename_i hcv
      exact cTrue hcv (exC2_sound hc a _ _ _ _ _ _ h hk)
    · rename_i hcv
      exact cFalse hcv (exC2_sound hc b _ _ _ _ _ _ h hk)
    · cases h
  | .block id c, T, H, K, e, T', H', h, hk => by
    simp only [exC2] at h
    split at h
    · rename_i i T1 H1 ha
      refine exC2_sound hc c _ _ _ _ _ _ ha ?_
      simp only [blkK]
      split at h
      · rename_i hi
        rw [if_pos hi]
        simp only [Option.some.injEq, Prod.mk.injEq] at h
        obtain ⟨rfl, rfl, rfl⟩ := h
        exact hk
      · rename_i hi
        rw [if_neg hi]
        simp only [Option.some.injEq, Prod.mk.injEq] at h
        obtain ⟨rfl, rfl, rfl⟩ := h
        exact hk
    · rename_i hn
      refine exC2_sound hc c _ _ _ _ _ _ h ?_
      cases e with
      | exit i => exact absurd h (by intro h; exact hn _ _ _ h)
      | _ => exact hk
  | .loop c, T, H, K, e, T', H', h, hk => by
    simp only [exC2] at h
    refine cLoop (fun m T H => exLoop (exC2 C call n fuel c) m T H = some (e, T', H')) fuel T H (Or.inl ⟨SubT.refl _, rfl⟩) h ?_
    intro m T1 H1 hI
    cases m with
    | zero => cases hI
    | succ m =>
      simp only [exLoop] at hI
      split at hI
      · rename_i T2 H2 hb
        exact exC2_sound hc c _ _ _ _ _ _ hb (kLoop m T2 H2 (by omega) (Or.inl ⟨SubT.refl _, rfl⟩) hI)
      · rename_i e2 T2 H2 hne hb
        simp only [Option.some.injEq, Prod.mk.injEq] at hI
        obtain ⟨rfl, rfl, rfl⟩ := hI
        refine exC2_sound hc c _ _ _ _ _ _ hb ?_
        cases e2 with
        | normal => exact absurd rfl (hne)
        | _ => exact hk
      · cases hI
  | .exit id, T, H, K, e, T', H', h, hk => by simp only [exC2, Option.some.injEq, Prod.mk.injEq] at h; obtain ⟨rfl, rfl, rfl⟩ := h; exact hk
  | .ret, T, H, K, e, T', H', h, hk => by simp only [exC2, Option.some.injEq, Prod.mk.injEq] at h; obtain ⟨rfl, rfl, rfl⟩ := h; exact hk
  | .rangeFunc .., _, _, _, _, _, _, h, _ => by simp [exC2] at h
  | .scope _, _, _, _, _, _, _, h, _ => by simp [exC2] at h
  | .label _, _, _, _, _, _, _, h, _ => by simp [exC2] at h
  | .goto _, _, _, _, _, _, _, h, _ => by simp [exC2] at h
  | .refuse _, _, _, _, _, _, _, h, _ => by simp [exC2] at h
def exF2 (C : Ctx P) (told : CallF) : Nat → CallF
  | 0, _, _, _ => none
  | k + 1, f, args, H => match told f args H with
    | some r => some r
    | none => match P.funcs[f]? with
      | some fn => match fn.body with
        | some c => if (fn.name == "runtime.NumGoroutine") = false then (match exC2 C (callX (exF2 C told k)) H.length 4096 c (args.map some ++ List.replicate (fn.ntmps - args.length) (some undef)) H with
          | some (.normal, T', H') | some (.ret, T', H') => match resOf P T' H' fn.results.toList with
            | some l => leave C (packR l) H H'
            | none => none
          | _ => none) else none
        | none => none
      | none => none
theorem exF2_sound {C : Ctx P} {told : CallF} (ht : CallOK P told) : ∀ k, CallOK P (exF2 C told k)
  | 0 => fun f args H v H' h => by cases h
  | k + 1 => fun f args H v H' h => by
    simp only [exF2] at h
    split at h
    · rename_i r hr
      simp only [Option.some.injEq] at h
      subst h
      exact ht _ _ _ _ _ hr
    · split at h
      · rename_i fn hf
        split at h
        · rename_i c hb
          split at h
          · rename_i hn
            refine sound_intro (C := C) hf hb hn fun hcl => ?_
            split at h
            · rename_i T1 H1 hx
              split at h
              · rename_i l hres
                exact exC2_sound (callX_sound (exF2_sound ht k)) c _ _ _ _ _ _ hx (leave_ends (Or.inl rfl) hcl hres h)
              · cases h
            · rename_i T1 H1 hx
              split at h
              · rename_i l hres
                exact exC2_sound (callX_sound (exF2_sound ht k)) c _ _ _ _ _ _ hx (leave_ends (Or.inr rfl) hcl hres h)
              · cases h
            · cases h
          · cases h
        · cases h
      · cases h
end
end Go.Am
set_option linter.unusedVariables false
set_option linter.unusedSimpArgs false
namespace Go.Proofs.Ytcldfmnkeiogdaa
open Go.Am Go.RowKit
def turnsL : List Int := [0, 1, 2, 0, 0, 0, 0, 1, 2, 0, 1, 1, 0, 1, 2, 1, 0, 1, 0, 1, 2, 1, 1, 0, 0, 2, 1, 0, 0, 1, 0, 2, 1, 0, 1, 0, 0, 2, 1, 1, 0, 0, 0, 2, 1, 1, 1, 1, 1, 0, 2, 0, 0, 1, 1, 0, 2, 0, 1, 0, 1, 0, 2, 1, 0, 0, 1, 0, 2, 1, 1, 1, 1, 2, 0, 0, 0, 0, 1, 2, 0, 0, 1, 1, 1, 2, 0, 1, 0, 1, 1, 2, 0, 1, 1, 0, 2, 0, 1, 0, 0, 0, 2, 0, 1, 0, 1, 1, 2, 0, 1, 1, 0, 1, 2, 0, 1, 1, 1, 0, 2, 1, 0, 0, 0, 1, 2, 1, 0, 0, 1, 0, 2, 1, 0, 1, 0, 0, 2, 1, 0, 1, 1, 1]
theorem turnings_run : exF2 cx (fun _ _ _ => none) 8 62 [] [] = some (.slice (some ⟨0, 0, none⟩) 24 0, [some ⟨nums turnsL, 81, false, true⟩]) := by kernel_rfl
theorem l8Turns_run : exF2 cx (fun _ _ _ => none) 8 38 [] [] = some (.slice (some ⟨0, 0, none⟩) 24 0, [some ⟨nums turnsL, 56, false, true⟩]) := by kernel_rfl
theorem turnings_ok : Sound Try.prog 62 [] [] (.slice (some ⟨0, 0, none⟩) 24 0) [some ⟨nums turnsL, 81, false, true⟩] := exF2_sound told_none 8 _ _ _ _ _ turnings_run
theorem l8Turns_ok : Sound Try.prog 38 [] [] (.slice (some ⟨0, 0, none⟩) 24 0) [some ⟨nums turnsL, 56, false, true⟩] := exF2_sound told_none 8 _ _ _ _ _ l8Turns_run
end Go.Proofs.Ytcldfmnkeiogdaa
set_option linter.unusedVariables false
set_option linter.unusedSimpArgs false
namespace Go.Proofs.Ytcldfmnkeiogdaa
open Go.Am Go.RowKit
def told : CallF := fun f args H => match args with
  | [] => if f = 62 then some (mpV (renId fun i => H.length + i) (.slice (some ⟨0, 0, none⟩) 24 0), H ++ [some ⟨nums turnsL, 81, false, true⟩]) else if f = 38 then some (mpV (renId fun i => H.length + i) (.slice (some ⟨0, 0, none⟩) 24 0), H ++ [some ⟨nums turnsL, 56, false, true⟩]) else none
  | _ => none
theorem told_ok : CallOK Try.prog told := fun f args H v H' h => by
  unfold told at h
  split at h
  · split at h
    · rename_i hf
      subst hf
      simp only [Option.some.injEq, Prod.mk.injEq] at h
      obtain ⟨rfl, rfl⟩ := h
      exact turnings_ok.fresh rfl (FlatH.nil.cons (flatNums _ _ _ _)) (fun s hs => by simp at hs; subst hs; exact Or.inl rfl) _ rfl
    · split at h
      · rename_i hf
        subst hf
        simp only [Option.some.injEq, Prod.mk.injEq] at h
        obtain ⟨rfl, rfl⟩ := h
        exact l8Turns_ok.fresh rfl (FlatH.nil.cons (flatNums _ _ _ _)) (fun s hs => by simp at hs; subst hs; exact Or.inl rfl) _ rfl
      · cases h
  · cases h
def okB (r : Option (Value × Heap)) : Bool := match r with
  | some (.bool true, []) => true
  | _ => false
theorem okB_eq {r : Option (Value × Heap)} (h : okB r = true) : r = some (.bool true, []) := by
  unfold okB at h
  split at h
  · rfl
  · cases h
end Go.Proofs.Ytcldfmnkeiogdaa
set_option linter.unusedVariables false
set_option linter.unusedSimpArgs false
namespace Go.Proofs.Ytcldfmnkeiogdaa
open Go.Am Go.RowKit
def turnN (j : Nat) : List Int := (turnsL.drop (6 * j)).take 6
theorem l8At_0 : Sound Try.prog 42 [.agg (nums (turnN 0)).toArray] [] (.int .i64 0) [] := exF2_sound told_ok 8 _ _ _ _ _ (show exF2 cx told 8 42 [.agg (nums (turnN 0)).toArray] [] = some (.int .i64 0, []) by kernel_rfl)
theorem l8At_1 : Sound Try.prog 42 [.agg (nums (turnN 1)).toArray] [] (.int .i64 1) [] := exF2_sound told_ok 8 _ _ _ _ _ (show exF2 cx told 8 42 [.agg (nums (turnN 1)).toArray] [] = some (.int .i64 1, []) by kernel_rfl)
theorem l8At_2 : Sound Try.prog 42 [.agg (nums (turnN 2)).toArray] [] (.int .i64 2) [] := exF2_sound told_ok 8 _ _ _ _ _ (show exF2 cx told 8 42 [.agg (nums (turnN 2)).toArray] [] = some (.int .i64 2, []) by kernel_rfl)
theorem l8At_3 : Sound Try.prog 42 [.agg (nums (turnN 3)).toArray] [] (.int .i64 3) [] := exF2_sound told_ok 8 _ _ _ _ _ (show exF2 cx told 8 42 [.agg (nums (turnN 3)).toArray] [] = some (.int .i64 3, []) by kernel_rfl)
theorem l8At_4 : Sound Try.prog 42 [.agg (nums (turnN 4)).toArray] [] (.int .i64 4) [] := exF2_sound told_ok 8 _ _ _ _ _ (show exF2 cx told 8 42 [.agg (nums (turnN 4)).toArray] [] = some (.int .i64 4, []) by kernel_rfl)
theorem l8At_5 : Sound Try.prog 42 [.agg (nums (turnN 5)).toArray] [] (.int .i64 5) [] := exF2_sound told_ok 8 _ _ _ _ _ (show exF2 cx told 8 42 [.agg (nums (turnN 5)).toArray] [] = some (.int .i64 5, []) by kernel_rfl)
theorem l8At_6 : Sound Try.prog 42 [.agg (nums (turnN 6)).toArray] [] (.int .i64 6) [] := exF2_sound told_ok 8 _ _ _ _ _ (show exF2 cx told 8 42 [.agg (nums (turnN 6)).toArray] [] = some (.int .i64 6, []) by kernel_rfl)
theorem l8At_7 : Sound Try.prog 42 [.agg (nums (turnN 7)).toArray] [] (.int .i64 7) [] := exF2_sound told_ok 8 _ _ _ _ _ (show exF2 cx told 8 42 [.agg (nums (turnN 7)).toArray] [] = some (.int .i64 7, []) by kernel_rfl)
theorem l8At_8 : Sound Try.prog 42 [.agg (nums (turnN 8)).toArray] [] (.int .i64 8) [] := exF2_sound told_ok 8 _ _ _ _ _ (show exF2 cx told 8 42 [.agg (nums (turnN 8)).toArray] [] = some (.int .i64 8, []) by kernel_rfl)
theorem l8At_9 : Sound Try.prog 42 [.agg (nums (turnN 9)).toArray] [] (.int .i64 9) [] := exF2_sound told_ok 8 _ _ _ _ _ (show exF2 cx told 8 42 [.agg (nums (turnN 9)).toArray] [] = some (.int .i64 9, []) by kernel_rfl)
theorem l8At_10 : Sound Try.prog 42 [.agg (nums (turnN 10)).toArray] [] (.int .i64 10) [] := exF2_sound told_ok 8 _ _ _ _ _ (show exF2 cx told 8 42 [.agg (nums (turnN 10)).toArray] [] = some (.int .i64 10, []) by kernel_rfl)
theorem l8At_11 : Sound Try.prog 42 [.agg (nums (turnN 11)).toArray] [] (.int .i64 11) [] := exF2_sound told_ok 8 _ _ _ _ _ (show exF2 cx told 8 42 [.agg (nums (turnN 11)).toArray] [] = some (.int .i64 11, []) by kernel_rfl)
theorem l8At_12 : Sound Try.prog 42 [.agg (nums (turnN 12)).toArray] [] (.int .i64 12) [] := exF2_sound told_ok 8 _ _ _ _ _ (show exF2 cx told 8 42 [.agg (nums (turnN 12)).toArray] [] = some (.int .i64 12, []) by kernel_rfl)
theorem l8At_13 : Sound Try.prog 42 [.agg (nums (turnN 13)).toArray] [] (.int .i64 13) [] := exF2_sound told_ok 8 _ _ _ _ _ (show exF2 cx told 8 42 [.agg (nums (turnN 13)).toArray] [] = some (.int .i64 13, []) by kernel_rfl)
theorem l8At_14 : Sound Try.prog 42 [.agg (nums (turnN 14)).toArray] [] (.int .i64 14) [] := exF2_sound told_ok 8 _ _ _ _ _ (show exF2 cx told 8 42 [.agg (nums (turnN 14)).toArray] [] = some (.int .i64 14, []) by kernel_rfl)
theorem l8At_15 : Sound Try.prog 42 [.agg (nums (turnN 15)).toArray] [] (.int .i64 15) [] := exF2_sound told_ok 8 _ _ _ _ _ (show exF2 cx told 8 42 [.agg (nums (turnN 15)).toArray] [] = some (.int .i64 15, []) by kernel_rfl)
theorem l8At_16 : Sound Try.prog 42 [.agg (nums (turnN 16)).toArray] [] (.int .i64 16) [] := exF2_sound told_ok 8 _ _ _ _ _ (show exF2 cx told 8 42 [.agg (nums (turnN 16)).toArray] [] = some (.int .i64 16, []) by kernel_rfl)
theorem l8At_17 : Sound Try.prog 42 [.agg (nums (turnN 17)).toArray] [] (.int .i64 17) [] := exF2_sound told_ok 8 _ _ _ _ _ (show exF2 cx told 8 42 [.agg (nums (turnN 17)).toArray] [] = some (.int .i64 17, []) by kernel_rfl)
theorem l8At_18 : Sound Try.prog 42 [.agg (nums (turnN 18)).toArray] [] (.int .i64 18) [] := exF2_sound told_ok 8 _ _ _ _ _ (show exF2 cx told 8 42 [.agg (nums (turnN 18)).toArray] [] = some (.int .i64 18, []) by kernel_rfl)
theorem l8At_19 : Sound Try.prog 42 [.agg (nums (turnN 19)).toArray] [] (.int .i64 19) [] := exF2_sound told_ok 8 _ _ _ _ _ (show exF2 cx told 8 42 [.agg (nums (turnN 19)).toArray] [] = some (.int .i64 19, []) by kernel_rfl)
theorem l8At_20 : Sound Try.prog 42 [.agg (nums (turnN 20)).toArray] [] (.int .i64 20) [] := exF2_sound told_ok 8 _ _ _ _ _ (show exF2 cx told 8 42 [.agg (nums (turnN 20)).toArray] [] = some (.int .i64 20, []) by kernel_rfl)
theorem l8At_21 : Sound Try.prog 42 [.agg (nums (turnN 21)).toArray] [] (.int .i64 21) [] := exF2_sound told_ok 8 _ _ _ _ _ (show exF2 cx told 8 42 [.agg (nums (turnN 21)).toArray] [] = some (.int .i64 21, []) by kernel_rfl)
theorem l8At_22 : Sound Try.prog 42 [.agg (nums (turnN 22)).toArray] [] (.int .i64 22) [] := exF2_sound told_ok 8 _ _ _ _ _ (show exF2 cx told 8 42 [.agg (nums (turnN 22)).toArray] [] = some (.int .i64 22, []) by kernel_rfl)
theorem l8At_23 : Sound Try.prog 42 [.agg (nums (turnN 23)).toArray] [] (.int .i64 23) [] := exF2_sound told_ok 8 _ _ _ _ _ (show exF2 cx told 8 42 [.agg (nums (turnN 23)).toArray] [] = some (.int .i64 23, []) by kernel_rfl)
end Go.Proofs.Ytcldfmnkeiogdaa
set_option linter.unusedVariables false
set_option linter.unusedSimpArgs false
namespace Go.Proofs.Ytcldfmnkeiogdaa
open Go.Am Go.RowKit
theorem drop_rows {P : Program} {f : FuncId} {args : List Value} {H E : Heap} {v : Value} (h : Sound P f args H v (H ++ E)) (hv : ∀ i ∈ idsV v, i < H.length) (hc : Closed H) : Sound P f args H v H :=
  ⟨h.can, fun ρ w hr ha => (h.run ρ w hr ha).mono fun e w' ⟨ρ', he, ad, _⟩ => ⟨ρ', he, adv_drop ad (Nat.le_refl _) hc, hv⟩⟩
theorem turns_closed : Closed [some ⟨nums turnsL, 81, false, false⟩] := (FlatH.nil.cons (flatNums _ _ _ _)).closed
theorem index_0 : Sound Try.prog 63 [.slice (some ⟨0, 0, none⟩) 24 0, .agg (nums (turnN 0)).toArray] [some ⟨nums turnsL, 81, false, false⟩] (.int .i64 0) [some ⟨nums turnsL, 81, false, false⟩] := drop_rows (E := [some ⟨nums (turnN 0), 81, true, true⟩]) (exF2_sound told_ok 8 _ _ _ _ _ (show exF2 cx told 8 63 [.slice (some ⟨0, 0, none⟩) 24 0, .agg (nums (turnN 0)).toArray] [some ⟨nums turnsL, 81, false, false⟩] = some (.int .i64 0, [some ⟨nums turnsL, 81, false, false⟩, some ⟨nums (turnN 0), 81, true, true⟩]) by kernel_rfl)) (by simp [idsV, idsA, idsS, idsP]) turns_closed
theorem index_1 : Sound Try.prog 63 [.slice (some ⟨0, 0, none⟩) 24 0, .agg (nums (turnN 1)).toArray] [some ⟨nums turnsL, 81, false, false⟩] (.int .i64 1) [some ⟨nums turnsL, 81, false, false⟩] := drop_rows (E := [some ⟨nums (turnN 1), 81, true, true⟩]) (exF2_sound told_ok 8 _ _ _ _ _ (show exF2 cx told 8 63 [.slice (some ⟨0, 0, none⟩) 24 0, .agg (nums (turnN 1)).toArray] [some ⟨nums turnsL, 81, false, false⟩] = some (.int .i64 1, [some ⟨nums turnsL, 81, false, false⟩, some ⟨nums (turnN 1), 81, true, true⟩]) by kernel_rfl)) (by simp [idsV, idsA, idsS, idsP]) turns_closed
theorem index_2 : Sound Try.prog 63 [.slice (some ⟨0, 0, none⟩) 24 0, .agg (nums (turnN 2)).toArray] [some ⟨nums turnsL, 81, false, false⟩] (.int .i64 2) [some ⟨nums turnsL, 81, false, false⟩] := drop_rows (E := [some ⟨nums (turnN 2), 81, true, true⟩]) (exF2_sound told_ok 8 _ _ _ _ _ (show exF2 cx told 8 63 [.slice (some ⟨0, 0, none⟩) 24 0, .agg (nums (turnN 2)).toArray] [some ⟨nums turnsL, 81, false, false⟩] = some (.int .i64 2, [some ⟨nums turnsL, 81, false, false⟩, some ⟨nums (turnN 2), 81, true, true⟩]) by kernel_rfl)) (by simp [idsV, idsA, idsS, idsP]) turns_closed
theorem index_3 : Sound Try.prog 63 [.slice (some ⟨0, 0, none⟩) 24 0, .agg (nums (turnN 3)).toArray] [some ⟨nums turnsL, 81, false, false⟩] (.int .i64 3) [some ⟨nums turnsL, 81, false, false⟩] := drop_rows (E := [some ⟨nums (turnN 3), 81, true, true⟩]) (exF2_sound told_ok 8 _ _ _ _ _ (show exF2 cx told 8 63 [.slice (some ⟨0, 0, none⟩) 24 0, .agg (nums (turnN 3)).toArray] [some ⟨nums turnsL, 81, false, false⟩] = some (.int .i64 3, [some ⟨nums turnsL, 81, false, false⟩, some ⟨nums (turnN 3), 81, true, true⟩]) by kernel_rfl)) (by simp [idsV, idsA, idsS, idsP]) turns_closed
theorem index_4 : Sound Try.prog 63 [.slice (some ⟨0, 0, none⟩) 24 0, .agg (nums (turnN 4)).toArray] [some ⟨nums turnsL, 81, false, false⟩] (.int .i64 4) [some ⟨nums turnsL, 81, false, false⟩] := drop_rows (E := [some ⟨nums (turnN 4), 81, true, true⟩]) (exF2_sound told_ok 8 _ _ _ _ _ (show exF2 cx told 8 63 [.slice (some ⟨0, 0, none⟩) 24 0, .agg (nums (turnN 4)).toArray] [some ⟨nums turnsL, 81, false, false⟩] = some (.int .i64 4, [some ⟨nums turnsL, 81, false, false⟩, some ⟨nums (turnN 4), 81, true, true⟩]) by kernel_rfl)) (by simp [idsV, idsA, idsS, idsP]) turns_closed
theorem index_5 : Sound Try.prog 63 [.slice (some ⟨0, 0, none⟩) 24 0, .agg (nums (turnN 5)).toArray] [some ⟨nums turnsL, 81, false, false⟩] (.int .i64 5) [some ⟨nums turnsL, 81, false, false⟩] := drop_rows (E := [some ⟨nums (turnN 5), 81, true, true⟩]) (exF2_sound told_ok 8 _ _ _ _ _ (show exF2 cx told 8 63 [.slice (some ⟨0, 0, none⟩) 24 0, .agg (nums (turnN 5)).toArray] [some ⟨nums turnsL, 81, false, false⟩] = some (.int .i64 5, [some ⟨nums turnsL, 81, false, false⟩, some ⟨nums (turnN 5), 81, true, true⟩]) by kernel_rfl)) (by simp [idsV, idsA, idsS, idsP]) turns_closed
theorem index_6 : Sound Try.prog 63 [.slice (some ⟨0, 0, none⟩) 24 0, .agg (nums (turnN 6)).toArray] [some ⟨nums turnsL, 81, false, false⟩] (.int .i64 6) [some ⟨nums turnsL, 81, false, false⟩] := drop_rows (E := [some ⟨nums (turnN 6), 81, true, true⟩]) (exF2_sound told_ok 8 _ _ _ _ _ (show exF2 cx told 8 63 [.slice (some ⟨0, 0, none⟩) 24 0, .agg (nums (turnN 6)).toArray] [some ⟨nums turnsL, 81, false, false⟩] = some (.int .i64 6, [some ⟨nums turnsL, 81, false, false⟩, some ⟨nums (turnN 6), 81, true, true⟩]) by kernel_rfl)) (by simp [idsV, idsA, idsS, idsP]) turns_closed
theorem index_7 : Sound Try.prog 63 [.slice (some ⟨0, 0, none⟩) 24 0, .agg (nums (turnN 7)).toArray] [some ⟨nums turnsL, 81, false, false⟩] (.int .i64 7) [some ⟨nums turnsL, 81, false, false⟩] := drop_rows (E := [some ⟨nums (turnN 7), 81, true, true⟩]) (exF2_sound told_ok 8 _ _ _ _ _ (show exF2 cx told 8 63 [.slice (some ⟨0, 0, none⟩) 24 0, .agg (nums (turnN 7)).toArray] [some ⟨nums turnsL, 81, false, false⟩] = some (.int .i64 7, [some ⟨nums turnsL, 81, false, false⟩, some ⟨nums (turnN 7), 81, true, true⟩]) by kernel_rfl)) (by simp [idsV, idsA, idsS, idsP]) turns_closed
theorem index_8 : Sound Try.prog 63 [.slice (some ⟨0, 0, none⟩) 24 0, .agg (nums (turnN 8)).toArray] [some ⟨nums turnsL, 81, false, false⟩] (.int .i64 8) [some ⟨nums turnsL, 81, false, false⟩] := drop_rows (E := [some ⟨nums (turnN 8), 81, true, true⟩]) (exF2_sound told_ok 8 _ _ _ _ _ (show exF2 cx told 8 63 [.slice (some ⟨0, 0, none⟩) 24 0, .agg (nums (turnN 8)).toArray] [some ⟨nums turnsL, 81, false, false⟩] = some (.int .i64 8, [some ⟨nums turnsL, 81, false, false⟩, some ⟨nums (turnN 8), 81, true, true⟩]) by kernel_rfl)) (by simp [idsV, idsA, idsS, idsP]) turns_closed
theorem index_9 : Sound Try.prog 63 [.slice (some ⟨0, 0, none⟩) 24 0, .agg (nums (turnN 9)).toArray] [some ⟨nums turnsL, 81, false, false⟩] (.int .i64 9) [some ⟨nums turnsL, 81, false, false⟩] := drop_rows (E := [some ⟨nums (turnN 9), 81, true, true⟩]) (exF2_sound told_ok 8 _ _ _ _ _ (show exF2 cx told 8 63 [.slice (some ⟨0, 0, none⟩) 24 0, .agg (nums (turnN 9)).toArray] [some ⟨nums turnsL, 81, false, false⟩] = some (.int .i64 9, [some ⟨nums turnsL, 81, false, false⟩, some ⟨nums (turnN 9), 81, true, true⟩]) by kernel_rfl)) (by simp [idsV, idsA, idsS, idsP]) turns_closed
theorem index_10 : Sound Try.prog 63 [.slice (some ⟨0, 0, none⟩) 24 0, .agg (nums (turnN 10)).toArray] [some ⟨nums turnsL, 81, false, false⟩] (.int .i64 10) [some ⟨nums turnsL, 81, false, false⟩] := drop_rows (E := [some ⟨nums (turnN 10), 81, true, true⟩]) (exF2_sound told_ok 8 _ _ _ _ _ (show exF2 cx told 8 63 [.slice (some ⟨0, 0, none⟩) 24 0, .agg (nums (turnN 10)).toArray] [some ⟨nums turnsL, 81, false, false⟩] = some (.int .i64 10, [some ⟨nums turnsL, 81, false, false⟩, some ⟨nums (turnN 10), 81, true, true⟩]) by kernel_rfl)) (by simp [idsV, idsA, idsS, idsP]) turns_closed
theorem index_11 : Sound Try.prog 63 [.slice (some ⟨0, 0, none⟩) 24 0, .agg (nums (turnN 11)).toArray] [some ⟨nums turnsL, 81, false, false⟩] (.int .i64 11) [some ⟨nums turnsL, 81, false, false⟩] := drop_rows (E := [some ⟨nums (turnN 11), 81, true, true⟩]) (exF2_sound told_ok 8 _ _ _ _ _ (show exF2 cx told 8 63 [.slice (some ⟨0, 0, none⟩) 24 0, .agg (nums (turnN 11)).toArray] [some ⟨nums turnsL, 81, false, false⟩] = some (.int .i64 11, [some ⟨nums turnsL, 81, false, false⟩, some ⟨nums (turnN 11), 81, true, true⟩]) by kernel_rfl)) (by simp [idsV, idsA, idsS, idsP]) turns_closed
theorem index_12 : Sound Try.prog 63 [.slice (some ⟨0, 0, none⟩) 24 0, .agg (nums (turnN 12)).toArray] [some ⟨nums turnsL, 81, false, false⟩] (.int .i64 12) [some ⟨nums turnsL, 81, false, false⟩] := drop_rows (E := [some ⟨nums (turnN 12), 81, true, true⟩]) (exF2_sound told_ok 8 _ _ _ _ _ (show exF2 cx told 8 63 [.slice (some ⟨0, 0, none⟩) 24 0, .agg (nums (turnN 12)).toArray] [some ⟨nums turnsL, 81, false, false⟩] = some (.int .i64 12, [some ⟨nums turnsL, 81, false, false⟩, some ⟨nums (turnN 12), 81, true, true⟩]) by kernel_rfl)) (by simp [idsV, idsA, idsS, idsP]) turns_closed
theorem index_13 : Sound Try.prog 63 [.slice (some ⟨0, 0, none⟩) 24 0, .agg (nums (turnN 13)).toArray] [some ⟨nums turnsL, 81, false, false⟩] (.int .i64 13) [some ⟨nums turnsL, 81, false, false⟩] := drop_rows (E := [some ⟨nums (turnN 13), 81, true, true⟩]) (exF2_sound told_ok 8 _ _ _ _ _ (show exF2 cx told 8 63 [.slice (some ⟨0, 0, none⟩) 24 0, .agg (nums (turnN 13)).toArray] [some ⟨nums turnsL, 81, false, false⟩] = some (.int .i64 13, [some ⟨nums turnsL, 81, false, false⟩, some ⟨nums (turnN 13), 81, true, true⟩]) by kernel_rfl)) (by simp [idsV, idsA, idsS, idsP]) turns_closed
theorem index_14 : Sound Try.prog 63 [.slice (some ⟨0, 0, none⟩) 24 0, .agg (nums (turnN 14)).toArray] [some ⟨nums turnsL, 81, false, false⟩] (.int .i64 14) [some ⟨nums turnsL, 81, false, false⟩] := drop_rows (E := [some ⟨nums (turnN 14), 81, true, true⟩]) (exF2_sound told_ok 8 _ _ _ _ _ (show exF2 cx told 8 63 [.slice (some ⟨0, 0, none⟩) 24 0, .agg (nums (turnN 14)).toArray] [some ⟨nums turnsL, 81, false, false⟩] = some (.int .i64 14, [some ⟨nums turnsL, 81, false, false⟩, some ⟨nums (turnN 14), 81, true, true⟩]) by kernel_rfl)) (by simp [idsV, idsA, idsS, idsP]) turns_closed
theorem index_15 : Sound Try.prog 63 [.slice (some ⟨0, 0, none⟩) 24 0, .agg (nums (turnN 15)).toArray] [some ⟨nums turnsL, 81, false, false⟩] (.int .i64 15) [some ⟨nums turnsL, 81, false, false⟩] := drop_rows (E := [some ⟨nums (turnN 15), 81, true, true⟩]) (exF2_sound told_ok 8 _ _ _ _ _ (show exF2 cx told 8 63 [.slice (some ⟨0, 0, none⟩) 24 0, .agg (nums (turnN 15)).toArray] [some ⟨nums turnsL, 81, false, false⟩] = some (.int .i64 15, [some ⟨nums turnsL, 81, false, false⟩, some ⟨nums (turnN 15), 81, true, true⟩]) by kernel_rfl)) (by simp [idsV, idsA, idsS, idsP]) turns_closed
theorem index_16 : Sound Try.prog 63 [.slice (some ⟨0, 0, none⟩) 24 0, .agg (nums (turnN 16)).toArray] [some ⟨nums turnsL, 81, false, false⟩] (.int .i64 16) [some ⟨nums turnsL, 81, false, false⟩] := drop_rows (E := [some ⟨nums (turnN 16), 81, true, true⟩]) (exF2_sound told_ok 8 _ _ _ _ _ (show exF2 cx told 8 63 [.slice (some ⟨0, 0, none⟩) 24 0, .agg (nums (turnN 16)).toArray] [some ⟨nums turnsL, 81, false, false⟩] = some (.int .i64 16, [some ⟨nums turnsL, 81, false, false⟩, some ⟨nums (turnN 16), 81, true, true⟩]) by kernel_rfl)) (by simp [idsV, idsA, idsS, idsP]) turns_closed
theorem index_17 : Sound Try.prog 63 [.slice (some ⟨0, 0, none⟩) 24 0, .agg (nums (turnN 17)).toArray] [some ⟨nums turnsL, 81, false, false⟩] (.int .i64 17) [some ⟨nums turnsL, 81, false, false⟩] := drop_rows (E := [some ⟨nums (turnN 17), 81, true, true⟩]) (exF2_sound told_ok 8 _ _ _ _ _ (show exF2 cx told 8 63 [.slice (some ⟨0, 0, none⟩) 24 0, .agg (nums (turnN 17)).toArray] [some ⟨nums turnsL, 81, false, false⟩] = some (.int .i64 17, [some ⟨nums turnsL, 81, false, false⟩, some ⟨nums (turnN 17), 81, true, true⟩]) by kernel_rfl)) (by simp [idsV, idsA, idsS, idsP]) turns_closed
theorem index_18 : Sound Try.prog 63 [.slice (some ⟨0, 0, none⟩) 24 0, .agg (nums (turnN 18)).toArray] [some ⟨nums turnsL, 81, false, false⟩] (.int .i64 18) [some ⟨nums turnsL, 81, false, false⟩] := drop_rows (E := [some ⟨nums (turnN 18), 81, true, true⟩]) (exF2_sound told_ok 8 _ _ _ _ _ (show exF2 cx told 8 63 [.slice (some ⟨0, 0, none⟩) 24 0, .agg (nums (turnN 18)).toArray] [some ⟨nums turnsL, 81, false, false⟩] = some (.int .i64 18, [some ⟨nums turnsL, 81, false, false⟩, some ⟨nums (turnN 18), 81, true, true⟩]) by kernel_rfl)) (by simp [idsV, idsA, idsS, idsP]) turns_closed
theorem index_19 : Sound Try.prog 63 [.slice (some ⟨0, 0, none⟩) 24 0, .agg (nums (turnN 19)).toArray] [some ⟨nums turnsL, 81, false, false⟩] (.int .i64 19) [some ⟨nums turnsL, 81, false, false⟩] := drop_rows (E := [some ⟨nums (turnN 19), 81, true, true⟩]) (exF2_sound told_ok 8 _ _ _ _ _ (show exF2 cx told 8 63 [.slice (some ⟨0, 0, none⟩) 24 0, .agg (nums (turnN 19)).toArray] [some ⟨nums turnsL, 81, false, false⟩] = some (.int .i64 19, [some ⟨nums turnsL, 81, false, false⟩, some ⟨nums (turnN 19), 81, true, true⟩]) by kernel_rfl)) (by simp [idsV, idsA, idsS, idsP]) turns_closed
theorem index_20 : Sound Try.prog 63 [.slice (some ⟨0, 0, none⟩) 24 0, .agg (nums (turnN 20)).toArray] [some ⟨nums turnsL, 81, false, false⟩] (.int .i64 20) [some ⟨nums turnsL, 81, false, false⟩] := drop_rows (E := [some ⟨nums (turnN 20), 81, true, true⟩]) (exF2_sound told_ok 8 _ _ _ _ _ (show exF2 cx told 8 63 [.slice (some ⟨0, 0, none⟩) 24 0, .agg (nums (turnN 20)).toArray] [some ⟨nums turnsL, 81, false, false⟩] = some (.int .i64 20, [some ⟨nums turnsL, 81, false, false⟩, some ⟨nums (turnN 20), 81, true, true⟩]) by kernel_rfl)) (by simp [idsV, idsA, idsS, idsP]) turns_closed
theorem index_21 : Sound Try.prog 63 [.slice (some ⟨0, 0, none⟩) 24 0, .agg (nums (turnN 21)).toArray] [some ⟨nums turnsL, 81, false, false⟩] (.int .i64 21) [some ⟨nums turnsL, 81, false, false⟩] := drop_rows (E := [some ⟨nums (turnN 21), 81, true, true⟩]) (exF2_sound told_ok 8 _ _ _ _ _ (show exF2 cx told 8 63 [.slice (some ⟨0, 0, none⟩) 24 0, .agg (nums (turnN 21)).toArray] [some ⟨nums turnsL, 81, false, false⟩] = some (.int .i64 21, [some ⟨nums turnsL, 81, false, false⟩, some ⟨nums (turnN 21), 81, true, true⟩]) by kernel_rfl)) (by simp [idsV, idsA, idsS, idsP]) turns_closed
theorem index_22 : Sound Try.prog 63 [.slice (some ⟨0, 0, none⟩) 24 0, .agg (nums (turnN 22)).toArray] [some ⟨nums turnsL, 81, false, false⟩] (.int .i64 22) [some ⟨nums turnsL, 81, false, false⟩] := drop_rows (E := [some ⟨nums (turnN 22), 81, true, true⟩]) (exF2_sound told_ok 8 _ _ _ _ _ (show exF2 cx told 8 63 [.slice (some ⟨0, 0, none⟩) 24 0, .agg (nums (turnN 22)).toArray] [some ⟨nums turnsL, 81, false, false⟩] = some (.int .i64 22, [some ⟨nums turnsL, 81, false, false⟩, some ⟨nums (turnN 22), 81, true, true⟩]) by kernel_rfl)) (by simp [idsV, idsA, idsS, idsP]) turns_closed
theorem index_23 : Sound Try.prog 63 [.slice (some ⟨0, 0, none⟩) 24 0, .agg (nums (turnN 23)).toArray] [some ⟨nums turnsL, 81, false, false⟩] (.int .i64 23) [some ⟨nums turnsL, 81, false, false⟩] := drop_rows (E := [some ⟨nums (turnN 23), 81, true, true⟩]) (exF2_sound told_ok 8 _ _ _ _ _ (show exF2 cx told 8 63 [.slice (some ⟨0, 0, none⟩) 24 0, .agg (nums (turnN 23)).toArray] [some ⟨nums turnsL, 81, false, false⟩] = some (.int .i64 23, [some ⟨nums turnsL, 81, false, false⟩, some ⟨nums (turnN 23), 81, true, true⟩]) by kernel_rfl)) (by simp [idsV, idsA, idsS, idsP]) turns_closed
end Go.Proofs.Ytcldfmnkeiogdaa
set_option linter.unusedVariables false
set_option linter.unusedSimpArgs false
namespace Go.Am
open Go.RowKit
section
variable {P : Program} {C : Ctx P} {T : Tm} {H : Heap} {t u : TypeId} {x y : Operand}
end
end Go.Am
namespace Go.Am
section
open Go.RowKit
variable {P : Program} {C : Ctx P} {T : Tm} {H : Heap} {t u : TypeId} {x y : Operand} {b : Bool}
end
end Go.Am
set_option linter.unusedVariables false
set_option linter.unusedSimpArgs false
namespace Go.Am
def fl (Y Z n : Nat) (p : Nat → Bool) : List A3 := ((List.range n).filter p).map (cellOf Y Z)
theorem listOf_fl (X Y Z s : Nat) : listOf X Y Z s = fl Y Z (X * Y * Z) s.testBit := rfl
theorem fl_congr {Y Z n : Nat} {p q : Nat → Bool} (h : ∀ i, i < n → p i = q i) : fl Y Z n p = fl Y Z n q := by
  unfold fl
  congr 1
  exact List.filter_congr fun i hi => h i (List.mem_range.1 hi)
theorem fl_length (Y Z n : Nat) (p : Nat → Bool) : (fl Y Z n p).length ≤ n := by
  unfold fl
  rw [List.length_map]
  have := List.length_filter_le p (List.range n)
  simpa using this
def idxN (Y Z : Nat) (c : A3) : Nat := (c.x.toNat * Y + c.y.toNat) * Z + c.z.toNat
theorem idx_cellOf {Y Z : Nat} (hY : 1 ≤ Y) (hZ : 1 ≤ Z) (i : Nat) : idxN Y Z (cellOf Y Z i) = i := by
  simp only [idxN, cellOf, Int.toNat_natCast]
  have h1 : i / Z / Y * Y + i / Z % Y = i / Z := by rw [Nat.mul_comm]; exact Nat.div_add_mod _ _
  rw [h1, Nat.mul_comm]
  exact Nat.div_add_mod _ _
end Go.Am
set_option linter.unusedVariables false
set_option linter.unusedSimpArgs false
namespace Go.Am
def setOf (Y Z : Nat) (L : List A3) : Nat := L.foldl (fun s c => s ||| 2 ^ idxN Y Z c) 0
theorem fold_bit (Y Z i : Nat) : ∀ (L : List A3) (s : Nat), (L.foldl (fun s c => s ||| 2 ^ idxN Y Z c) s).testBit i = (s.testBit i || L.any fun c => decide (idxN Y Z c = i))
  | [], s => by simp
  | c :: L, s => by
    rw [List.foldl_cons, fold_bit Y Z i L, Nat.testBit_or, Nat.testBit_two_pow, List.any_cons, Bool.or_assoc]
theorem setOf_bit (Y Z : Nat) (L : List A3) (i : Nat) : (setOf Y Z L).testBit i = L.any fun c => decide (idxN Y Z c = i) := by
  rw [setOf, fold_bit, Nat.zero_testBit, Bool.false_or]
theorem setOf_fl {X Y Z : Nat} (hY : 1 ≤ Y) (hZ : 1 ≤ Z) (p : Nat → Bool) (i : Nat) : (setOf Y Z (fl Y Z (X * Y * Z) p)).testBit i = (decide (i < X * Y * Z) && p i) := by
  rw [setOf_bit, Bool.eq_iff_iff]
  simp only [List.any_eq_true, decide_eq_true_eq, Bool.and_eq_true, fl, List.mem_map, List.mem_filter, List.mem_range]
  constructor
  · rintro ⟨c, ⟨j, ⟨hj, hp⟩, rfl⟩, rfl⟩
    rw [idx_cellOf hY hZ]
    exact ⟨hj, hp⟩
  · rintro ⟨hi, hp⟩
    exact ⟨_, ⟨i, ⟨hi, hp⟩, rfl⟩, idx_cellOf hY hZ i⟩
theorem listOf_setOf {X Y Z : Nat} (hY : 1 ≤ Y) (hZ : 1 ≤ Z) (p : Nat → Bool) : listOf X Y Z (setOf Y Z (fl Y Z (X * Y * Z) p)) = fl Y Z (X * Y * Z) p := by
  rw [listOf_fl]
  exact fl_congr fun i hi => by rw [setOf_fl hY hZ]; simp [hi]
theorem pow_lt64 {n : Nat} (h : n < 64) : 2 ^ n < 18446744073709551616 := by
  have := Nat.pow_lt_pow_right (a := 2) (by decide) h
  simpa using this
end Go.Am
namespace Go.Am
theorem getD_mem {L : List A3} {i : Nat} (h : i < L.length) : L.getD i default ∈ L := by
  rw [List.getD_eq_getElem?_getD, List.getElem?_eq_getElem h]
  exact List.getElem_mem h
end Go.Am
namespace Go.Am
end Go.Am
namespace Go.Am
end Go.Am
set_option linter.unusedVariables false
set_option linter.unusedSimpArgs false
namespace Go.Am
open Go.RowKit
def RD (H : Heap) (σ : Nat → Nat) (i : Nat) (o : Option Row) : Prop := ∀ r, o = some r → r.wr = false ∧ ∃ b, H[σ i]? = some (some { renRow σ r with wr := b })
def RDs (H : Heap) (σ : Nat → Nat) : Nat → Heap → Prop
  | _, [] => True
  | i, o :: l => RD H σ i o ∧ RDs H σ (i + 1) l
theorem rdF {H : Heap} {σ : Nat → Nat} {i : Nat} {r : Row} (b : Bool) (hf : FlatRow r) (hw : r.wr = false) (h : H[σ i]? = some (some { r with wr := b })) : RD H σ i (some r) := fun q hq => by
  simp only [Option.some.injEq] at hq
  subst hq
  exact ⟨hw, b, by rw [hf.ren]; exact h⟩
theorem RDs.at {H : Heap} {σ : Nat → Nat} : ∀ {l : Heap} {i j : Nat} {r : Row}, RDs H σ i l → l[j]? = some (some r) → r.wr = false ∧ ∃ b, H[σ (i + j)]? = some (some { renRow σ r with wr := b })
  | [], i, j, r, _, h => by simp at h
  | o :: l, i, 0, r, h, hj => by simp at hj; exact h.1 r hj
  | o :: l, i, j + 1, r, h, hj => by
    have := RDs.at (i := i + 1) (j := j) h.2 (by simpa using hj)
    rw [show i + 1 + j = i + (j + 1) by omega] at this
    exact this
def EN (τ : Nat → Nat) (o o' : Option Row) : Prop := o' = o.map (renRow τ) ∧ ∀ r, o = some r → r.wr = true ∨ r.cells = []
def ENs (τ : Nat → Nat) : Heap → Heap → Prop
  | [], [] => True
  | o :: l, o' :: l' => EN τ o o' ∧ ENs τ l l'
  | _, _ => False
theorem ENs.eq {τ : Nat → Nat} : ∀ {l l' : Heap}, ENs τ l l' → l' = l.map (Option.map (renRow τ))
  | [], [], _ => rfl
  | o :: l, o' :: l', h => by rw [List.map_cons, h.1.1, h.2.eq]
  | [], _ :: _, h => h.elim
  | _ :: _, [], h => h.elim
theorem ENs.wr {τ : Nat → Nat} : ∀ {l l' : Heap}, ENs τ l l' → ∀ r, some r ∈ l → r.wr = true ∨ r.cells = []
  | [], _, _, r, h => by simp at h
  | o :: l, o' :: l', h, r, hr => by
    rcases List.mem_cons.1 hr with h1 | h1
    · exact h.1.2 r h1.symm
    · exact h.2.wr r h1
  | _ :: _, [], h, _, _ => h.elim
theorem Sound.lay {P : Program} {f : FuncId} {args0 args : List Value} {H0 E0 H E : Heap} {v0 v : Value} (σ : List Nat) (hS : Sound P f args0 H0 v0 (H0 ++ E0)) (hr : RDs H (fun i => σ.getD i 0) 0 H0)
    (hlt : (decide (σ.length = H0.length) && σ.all fun s => decide (s < H.length)) = true) (hcl : CLs H0.length H0) (hi : (args0.all fun x => (idsV x).all fun i => decide (i < H0.length)) = true)
    (ha : args = args0.map (mpV (renId fun i => σ.getD i 0))) (hv : v = mpV (renId (shift H0.length H.length fun i => σ.getD i 0)) v0) (hE : ENs (shift H0.length H.length fun i => σ.getD i 0) E0 E) : Sound P f args H v (H ++ E) := by
  simp only [Bool.and_eq_true, decide_eq_true_eq, List.all_eq_true] at hlt hi
  obtain ⟨hl, hlt⟩ := hlt
  refine Sound.emb (fun i => σ.getD i 0) hS ⟨fun i h => ?_, fun i r h => ?_, fun i j r s h _ hw => ?_⟩ (closedL hcl) hE.wr (fun x hx i h => hi x hx i h) ha hv hE.eq
  · refine hlt _ ?_
    simp only [List.getD_eq_getElem?_getD, List.getElem?_eq_getElem (show i < σ.length by omega), Option.getD_some]
    exact List.getElem_mem _
  · have := hr.at h
    rw [Nat.zero_add] at this
    obtain ⟨h1, b, h2⟩ := this
    exact ⟨b, (fun hw => by rw [h1] at hw; cases hw), h2⟩
  · have := (hr.at h).1
    rw [this] at hw
    cases hw
theorem Sound.lay0 {P : Program} {f : FuncId} {args0 args : List Value} {H0 H : Heap} {v0 v : Value} (σ : List Nat) (hS : Sound P f args0 H0 v0 H0) (hr : RDs H (fun i => σ.getD i 0) 0 H0)
    (hlt : (decide (σ.length = H0.length) && σ.all fun s => decide (s < H.length)) = true) (hcl : CLs H0.length H0) (hi : (args0.all fun x => (idsV x).all fun i => decide (i < H0.length)) = true)
    (ha : args = args0.map (mpV (renId fun i => σ.getD i 0))) (hv : v = mpV (renId (shift H0.length H.length fun i => σ.getD i 0)) v0) : Sound P f args H v H := by
  have h := Sound.lay (E0 := []) (E := []) σ (by simpa using hS) hr hlt hcl hi ha hv trivial
  simpa using h
def leads (args : List Value) (H : Heap) (w : List Nat) (i : Nat) : Bool :=
  (args.any fun x => (idsV x).contains i) || ((args.any fun x => (idsV x).contains (w.getD i 0)) && (match H[w.getD i 0]? with
    | some (some r) => r.cells.any fun v => (idsS v).contains i
    | _ => false))
theorem renRow_mem {σ : Nat → Nat} {r : Row} {v : Value} {i : Nat} (hv : v ∈ r.cells) (hi : i ∈ idsS v) : ∃ u ∈ (renRow σ r).cells, σ i ∈ idsS u :=
  ⟨mpS (renId σ) v, by simp only [renRow]; exact List.mem_map_of_mem hv, by rw [idsS_ren]; exact List.mem_map_of_mem hi⟩
theorem Quiet.lay0 {P : Program} {f : FuncId} {args0 args : List Value} {H0 H : Heap} {v0 v : Value} (σ : List Nat) (w : List Nat) (hS : Sound P f args0 H0 v0 H0) (hr : RDs H (fun i => σ.getD i 0) 0 H0)
    (hlt : (decide (σ.length = H0.length) && σ.all fun s => decide (s < H.length)) = true) (hcl : CLs H0.length H0) (hi : (args0.all fun x => (idsV x).all fun i => decide (i < H0.length)) = true)
    (ha : args = args0.map (mpV (renId fun i => σ.getD i 0))) (hv : ∀ n, v = mpV (renId (shift H0.length n fun i => σ.getD i 0)) v0) (hk : ((List.range H0.length).all fun i => leads args0 H0 w i) = true) : Quiet P f args H v := fun G E hE hG hids => by
  have hlt2 := hlt
  simp only [Bool.and_eq_true, decide_eq_true_eq, List.all_eq_true] at hlt2
  simp only [List.all_eq_true, List.mem_range] at hk
  have direct : ∀ i, (args0.any fun x => (idsV x).contains i) = true → σ.getD i 0 < G.length := fun i h => arg_lt (σ := fun i => σ.getD i 0) ha h hids
  have hall : ∀ i, i < H0.length → σ.getD i 0 < G.length := by
    intro i hil
    have h := hk i hil
    unfold leads at h
    rw [Bool.or_eq_true, Bool.and_eq_true] at h
    rcases h with h | ⟨h1, h2⟩
    · exact direct i h
    · have hg := direct _ h1
      cases hrow : H0[w.getD i 0]? with
      | none => rw [hrow] at h2; cases h2
      | some o =>
        rw [hrow] at h2
        cases o with
        | none => cases h2
        | some r =>
          simp only [List.any_eq_true] at h2
          obtain ⟨u, hu, hui⟩ := h2
          have hat := hr.at hrow
          rw [Nat.zero_add] at hat
          obtain ⟨_, b, hb⟩ := hat
          rw [hE, List.getElem?_append_left hg] at hb
          obtain ⟨u2, hu2, hm⟩ := renRow_mem (σ := fun i => σ.getD i 0) hu (by simpa using hui)
          exact hG _ _ hb u2 hu2 _ hm
  refine Sound.lay0 σ hS ?_ ?_ hcl hi ha (hv _)
  · have key : ∀ (l : Heap) (i : Nat), i + l.length ≤ H0.length → RDs H (fun i => σ.getD i 0) i l → RDs G (fun i => σ.getD i 0) i l := by
      intro l
      induction l with
      | nil => intro i _ _; trivial
      | cons o l ih =>
        intro i hle h
        simp only [List.length_cons] at hle
        refine ⟨fun r ho => ?_, ih (i + 1) (by omega) h.2⟩
        obtain ⟨h1, b, h2⟩ := h.1 r ho
        have hil : i < H0.length := by omega
        rw [hE, List.getElem?_append_left (hall i hil)] at h2
        exact ⟨h1, b, h2⟩
    exact key H0 0 (by omega) hr
  · simp only [Bool.and_eq_true, decide_eq_true_eq, List.all_eq_true]
    refine ⟨hlt2.1, fun s hs => ?_⟩
    obtain ⟨i, hi, rfl⟩ := List.getElem_of_mem hs
    have := hall i (by omega)
    simpa only [List.getD_eq_getElem?_getD, List.getElem?_eq_getElem hi, Option.getD_some] using this
theorem RDs.agree {H G : Heap} {σ : List Nat} (hag : ∀ i, i ∈ σ → G[i]? = H[i]?) : ∀ {l : Heap} {i : Nat}, i + l.length ≤ σ.length → RDs H (fun i => σ.getD i 0) i l → RDs G (fun i => σ.getD i 0) i l
  | [], _, _, _ => trivial
  | o :: l, i, hle, h => by
    simp only [List.length_cons] at hle
    refine ⟨fun r ho => ?_, RDs.agree hag (by omega) h.2⟩
    obtain ⟨h1, b, h2⟩ := h.1 r ho
    refine ⟨h1, b, ?_⟩
    have hm : σ.getD i 0 ∈ σ := by
      rw [List.getD_eq_getElem?_getD, List.getElem?_eq_getElem (show i < σ.length by omega)]
      exact List.getElem_mem _
    show G[σ.getD i 0]? = _
    rw [hag _ hm]
    exact h2
theorem Any.lay {P : Program} {f : FuncId} {args0 args : List Value} {H0 E0 H E : Heap} {v0 v : Value} {N : Nat} (σ : List Nat) (hS : Sound P f args0 H0 v0 (H0 ++ E0)) (hr : RDs H (fun i => σ.getD i 0) 0 H0)
    (hlt : (decide (σ.length = H0.length) && σ.all fun s => decide (s < N)) = true) (hcl : CLs H0.length H0) (hi : (args0.all fun x => (idsV x).all fun i => decide (i < H0.length)) = true)
    (ha : args = args0.map (mpV (renId fun i => σ.getD i 0))) (hv : v = mpV (renId (shift H0.length N fun i => σ.getD i 0)) v0) (hE : ENs (shift H0.length N fun i => σ.getD i 0) E0 E) : Any N σ H fun G => Sound P f args G v (G ++ E) := fun G hG hag => by
  subst hG
  have hl := hlt
  simp only [Bool.and_eq_true, decide_eq_true_eq] at hl
  exact Sound.lay σ hS (hr.agree hag (by omega)) hlt hcl hi ha hv hE
theorem Any.lay0 {P : Program} {f : FuncId} {args0 args : List Value} {H0 H : Heap} {v0 v : Value} {N : Nat} (σ : List Nat) (hS : Sound P f args0 H0 v0 H0) (hr : RDs H (fun i => σ.getD i 0) 0 H0)
    (hlt : (decide (σ.length = H0.length) && σ.all fun s => decide (s < N)) = true) (hcl : CLs H0.length H0) (hi : (args0.all fun x => (idsV x).all fun i => decide (i < H0.length)) = true)
    (ha : args = args0.map (mpV (renId fun i => σ.getD i 0))) (hv : v = mpV (renId (shift H0.length N fun i => σ.getD i 0)) v0) : Any N σ H fun G => Sound P f args G v G := fun G hG hag => by
  subst hG
  have hl := hlt
  simp only [Bool.and_eq_true, decide_eq_true_eq] at hl
  exact Sound.lay0 σ hS (hr.agree hag (by omega)) hlt hcl hi ha hv
section
variable {P : Program} {fn : Func} {n : Nat}
theorem endCast {e : Exit} {T : Tm} {H H1 H2 : Heap} {v1 v : Value} (hv : v1 = v) (hH : H1 = H2) (h : Ends P fn n v1 H1 e T H) : Ends P fn n v H2 e T H := by subst hv hH; exact h
end
section
variable {P : Program} {C : Ctx P} {T : Tm} {H : Heap} {t u : TypeId} {x y : Operand}
end
end Go.Am
namespace Go.Am
theorem bs0 : type_of% @Bool.not_eq_true' := @Bool.not_eq_true'
theorem bs1 : type_of% @Bool.not_eq_false' := @Bool.not_eq_false'
theorem bs2 : type_of% @decide_eq_true_eq := @decide_eq_true_eq
theorem bs3 : type_of% @decide_eq_false_iff_not := @decide_eq_false_iff_not
theorem bs4 : type_of% @Decidable.not_not := @Decidable.not_not
theorem bs5 : type_of% @Bool.and_eq_true := @Bool.and_eq_true
theorem bs6 : type_of% @Bool.and_eq_false_imp := @Bool.and_eq_false_imp
theorem bs7 : type_of% @Bool.or_eq_true := @Bool.or_eq_true
theorem bs8 : type_of% @Bool.or_eq_false_iff := @Bool.or_eq_false_iff
theorem bs9 : type_of% @Bool.not_eq_true := @Bool.not_eq_true
theorem bs10 : type_of% @Int.not_lt := @Int.not_lt
theorem bs11 : type_of% @Int.not_le := @Int.not_le
abbrev nR (L : List Int) : Option Row := some ⟨nums L, 81, false, false⟩
abbrev nW (L : List Int) : Option Row := some ⟨nums L, 81, false, true⟩
end Go.Am
set_option linter.unusedVariables false
set_option linter.unusedSimpArgs false
namespace Go.Proofs.Ytcldfmnkeiogdaa
open Go.Am Go.RowKit
def eqN : List Value → List Int → Bool
  | [], [] => true
  | .int .i64 a :: x, b :: y => a == b && eqN x y
  | _, _ => false
theorem eqN_eq : ∀ {x : List Value} {l : List Int}, eqN x l = true → x = nums l
  | [], [], _ => rfl
  | [], _ :: _, h => by simp [eqN] at h
  | v :: x, [], h => by cases v <;> simp [eqN] at h
  | v :: x, b :: y, h => by
    cases v with
    | int k a =>
      cases k with
      | i64 =>
        simp only [eqN, Bool.and_eq_true, beq_iff_eq] at h
        rw [h.1, eqN_eq h.2]; rfl
      | _ => simp [eqN] at h
    | _ => simp [eqN] at h
def posN (cs : List Value) : Nat → Option Nat
  | 0 => none
  | k + 1 => if eqN cs (turnN k) = true then some k else posN cs k
theorem posN_eq {cs : List Value} : ∀ {k j : Nat}, posN cs k = some j → j < k ∧ cs = nums (turnN j)
  | 0, j, h => by cases h
  | k + 1, j, h => by
    unfold posN at h
    split at h
    · rename_i he
      simp only [Option.some.injEq] at h
      subst h; exact ⟨by omega, eqN_eq he⟩
    · have := posN_eq h; exact ⟨by omega, this.2⟩
theorem l8At_all (j : Nat) (h : j < 24) : Sound Try.prog 42 [.agg (nums (turnN j)).toArray] [] (.int .i64 (j : Int)) [] := by
  match j, h with
  | 0, _ => exact l8At_0
  | 1, _ => exact l8At_1
  | 2, _ => exact l8At_2
  | 3, _ => exact l8At_3
  | 4, _ => exact l8At_4
  | 5, _ => exact l8At_5
  | 6, _ => exact l8At_6
  | 7, _ => exact l8At_7
  | 8, _ => exact l8At_8
  | 9, _ => exact l8At_9
  | 10, _ => exact l8At_10
  | 11, _ => exact l8At_11
  | 12, _ => exact l8At_12
  | 13, _ => exact l8At_13
  | 14, _ => exact l8At_14
  | 15, _ => exact l8At_15
  | 16, _ => exact l8At_16
  | 17, _ => exact l8At_17
  | 18, _ => exact l8At_18
  | 19, _ => exact l8At_19
  | 20, _ => exact l8At_20
  | 21, _ => exact l8At_21
  | 22, _ => exact l8At_22
  | 23, _ => exact l8At_23
  | n + 24, h => omega
theorem index_all (j : Nat) (h : j < 24) : Sound Try.prog 63 [.slice (some ⟨0, 0, none⟩) 24 0, .agg (nums (turnN j)).toArray] [some ⟨nums turnsL, 81, false, false⟩] (.int .i64 (j : Int)) [some ⟨nums turnsL, 81, false, false⟩] := by
  match j, h with
  | 0, _ => exact index_0
  | 1, _ => exact index_1
  | 2, _ => exact index_2
  | 3, _ => exact index_3
  | 4, _ => exact index_4
  | 5, _ => exact index_5
  | 6, _ => exact index_6
  | 7, _ => exact index_7
  | 8, _ => exact index_8
  | 9, _ => exact index_9
  | 10, _ => exact index_10
  | 11, _ => exact index_11
  | 12, _ => exact index_12
  | 13, _ => exact index_13
  | 14, _ => exact index_14
  | 15, _ => exact index_15
  | 16, _ => exact index_16
  | 17, _ => exact index_17
  | 18, _ => exact index_18
  | 19, _ => exact index_19
  | 20, _ => exact index_20
  | 21, _ => exact index_21
  | 22, _ => exact index_22
  | 23, _ => exact index_23
  | n + 24, h => omega
def rowT (H : Heap) (i : Nat) : Bool := match H[i]? with
  | some (some ⟨cs, 81, false, _⟩) => eqN cs turnsL && decide (i < H.length)
  | _ => false
theorem rowT_eq {H : Heap} {i : Nat} (h : rowT H i = true) : i < H.length ∧ ∃ b, H[i]? = some (some ⟨nums turnsL, 81, false, b⟩) := by
  unfold rowT at h
  split at h
  · rename_i cs b hr
    simp only [Bool.and_eq_true, decide_eq_true_eq] at h
    rw [eqN_eq h.1] at hr
    exact ⟨h.2, b, hr⟩
  · cases h
def told2 : CallF := fun f args H => match args with
  | [.agg cs] => if f = 42 then (match posN cs.toList 24 with
    | some j => some (.int .i64 (j : Int), H)
    | none => none) else none
  | [.slice (some ⟨i, 0, none⟩) 24 0, .agg cs] => if f = 63 ∧ rowT H i = true then (match posN cs.toList 24 with
    | some j => some (.int .i64 (j : Int), H)
    | none => none) else none
  | _ => told f args H
theorem fix_turn (j : Nat) : fixV (.agg (nums (turnN j)).toArray) = true := by
  have h := nums_all (turnN j)
  simpa [fixV, fixA] using h
theorem told2_ok : CallOK Try.prog told2 := fun f args H v H' h => by
  unfold told2 at h
  split at h
  · rename_i cs
    split at h
    · rename_i hf
      subst hf
      split at h
      · rename_i j hj
        simp only [Option.some.injEq, Prod.mk.injEq] at h
        obtain ⟨rfl, rfl⟩ := h
        have hp := posN_eq hj
        have e : cs = (nums (turnN j)).toArray := by apply Array.ext'; simpa using hp.2
        rw [e]
        exact (l8At_all j hp.1).flat (by simp [fix_turn]) rfl _
      · cases h
    · cases h
  · rename_i i cs
    split at h
    · rename_i hf
      obtain ⟨rfl, hr⟩ := hf
      split at h
      · rename_i j hj
        simp only [Option.some.injEq, Prod.mk.injEq] at h
        obtain ⟨rfl, rfl⟩ := h
        have hp := posN_eq hj
        have e : cs = (nums (turnN j)).toArray := by apply Array.ext'; simpa using hp.2
        obtain ⟨hl, b, hb⟩ := rowT_eq hr
        rw [e]
        have hfx : ∀ m : Mp, mpV m (.agg (nums (turnN j)).toArray) = .agg (nums (turnN j)).toArray := fun m => ((fixV_spec (fix_turn j)).2 m)
        have hid : idsV (.agg (nums (turnN j)).toArray) = [] := (fixV_spec (fix_turn j)).1
        refine Sound.lay0 [i] (index_all j hp.1) ⟨rdF b (flatNums _ _ _ _) rfl hb, trivial⟩ (by simpa using hl) ⟨clF (flatNums _ _ _ _), trivial⟩ (by simp only [List.all_cons, List.all_nil, hid]; simp [idsV, idsA, idsS, idsP]) ?_ rfl
        simp only [List.map_cons, List.map_nil, hfx]
        simp [mpV, mpA, mpS, mpP, renId]
      · cases h
    · cases h
  · exact told_ok f args H v H' h
noncomputable def behindC (k m : Nat) : Bool := okB (exF2 cx told2 8 4 [.int .i64 (k : Int), .int .i64 (m : Int)] [])
end Go.Proofs.Ytcldfmnkeiogdaa
set_option linter.unusedVariables false
set_option linter.unusedSimpArgs false
namespace Go.Proofs.Ytcldfmnkeiogdaa
open Go.Am Go.RowKit
theorem behindC_0_0 : behindC 0 0 = true := by kernel_rfl
theorem behindC_0_1 : behindC 0 1 = true := by kernel_rfl
theorem behindC_0_2 : behindC 0 2 = true := by kernel_rfl
theorem behindC_0_3 : behindC 0 3 = true := by kernel_rfl
theorem behindC_0_4 : behindC 0 4 = true := by kernel_rfl
theorem behindC_0_5 : behindC 0 5 = true := by kernel_rfl
theorem behindC_0_6 : behindC 0 6 = true := by kernel_rfl
theorem behindC_0_7 : behindC 0 7 = true := by kernel_rfl
theorem behindC_0_8 : behindC 0 8 = true := by kernel_rfl
theorem behindC_0_9 : behindC 0 9 = true := by kernel_rfl
theorem behindC_0_10 : behindC 0 10 = true := by kernel_rfl
theorem behindC_0_11 : behindC 0 11 = true := by kernel_rfl
theorem behindC_0_12 : behindC 0 12 = true := by kernel_rfl
theorem behindC_0_13 : behindC 0 13 = true := by kernel_rfl
theorem behindC_0_14 : behindC 0 14 = true := by kernel_rfl
theorem behindC_0_15 : behindC 0 15 = true := by kernel_rfl
theorem behindC_0_16 : behindC 0 16 = true := by kernel_rfl
theorem behindC_0_17 : behindC 0 17 = true := by kernel_rfl
theorem behindC_0_18 : behindC 0 18 = true := by kernel_rfl
theorem behindC_0_19 : behindC 0 19 = true := by kernel_rfl
theorem behindC_0_20 : behindC 0 20 = true := by kernel_rfl
theorem behindC_0_21 : behindC 0 21 = true := by kernel_rfl
theorem behindC_0_22 : behindC 0 22 = true := by kernel_rfl
theorem behindC_0_23 : behindC 0 23 = true := by kernel_rfl
theorem behindC_1_0 : behindC 1 0 = true := by kernel_rfl
theorem behindC_1_1 : behindC 1 1 = true := by kernel_rfl
theorem behindC_1_2 : behindC 1 2 = true := by kernel_rfl
theorem behindC_1_3 : behindC 1 3 = true := by kernel_rfl
theorem behindC_1_4 : behindC 1 4 = true := by kernel_rfl
theorem behindC_1_5 : behindC 1 5 = true := by kernel_rfl
theorem behindC_1_6 : behindC 1 6 = true := by kernel_rfl
theorem behindC_1_7 : behindC 1 7 = true := by kernel_rfl
theorem behindC_1_8 : behindC 1 8 = true := by kernel_rfl
theorem behindC_1_9 : behindC 1 9 = true := by kernel_rfl
theorem behindC_1_10 : behindC 1 10 = true := by kernel_rfl
theorem behindC_1_11 : behindC 1 11 = true := by kernel_rfl
theorem behindC_1_12 : behindC 1 12 = true := by kernel_rfl
theorem behindC_1_13 : behindC 1 13 = true := by kernel_rfl
theorem behindC_1_14 : behindC 1 14 = true := by kernel_rfl
theorem behindC_1_15 : behindC 1 15 = true := by kernel_rfl
theorem behindC_1_16 : behindC 1 16 = true := by kernel_rfl
theorem behindC_1_17 : behindC 1 17 = true := by kernel_rfl
theorem behindC_1_18 : behindC 1 18 = true := by kernel_rfl
theorem behindC_1_19 : behindC 1 19 = true := by kernel_rfl
theorem behindC_1_20 : behindC 1 20 = true := by kernel_rfl
theorem behindC_1_21 : behindC 1 21 = true := by kernel_rfl
theorem behindC_1_22 : behindC 1 22 = true := by kernel_rfl
theorem behindC_1_23 : behindC 1 23 = true := by kernel_rfl
theorem behindC_0 (m : Nat) (h : m < 24) : behindC 0 m = true := by
  match m, h with
  | 0, _ => exact behindC_0_0
  | 1, _ => exact behindC_0_1
  | 2, _ => exact behindC_0_2
  | 3, _ => exact behindC_0_3
  | 4, _ => exact behindC_0_4
  | 5, _ => exact behindC_0_5
  | 6, _ => exact behindC_0_6
  | 7, _ => exact behindC_0_7
  | 8, _ => exact behindC_0_8
  | 9, _ => exact behindC_0_9
  | 10, _ => exact behindC_0_10
  | 11, _ => exact behindC_0_11
  | 12, _ => exact behindC_0_12
  | 13, _ => exact behindC_0_13
  | 14, _ => exact behindC_0_14
  | 15, _ => exact behindC_0_15
  | 16, _ => exact behindC_0_16
  | 17, _ => exact behindC_0_17
  | 18, _ => exact behindC_0_18
  | 19, _ => exact behindC_0_19
  | 20, _ => exact behindC_0_20
  | 21, _ => exact behindC_0_21
  | 22, _ => exact behindC_0_22
  | 23, _ => exact behindC_0_23
  | n + 24, h => omega
theorem behindC_1 (m : Nat) (h : m < 24) : behindC 1 m = true := by
  match m, h with
  | 0, _ => exact behindC_1_0
  | 1, _ => exact behindC_1_1
  | 2, _ => exact behindC_1_2
  | 3, _ => exact behindC_1_3
  | 4, _ => exact behindC_1_4
  | 5, _ => exact behindC_1_5
  | 6, _ => exact behindC_1_6
  | 7, _ => exact behindC_1_7
  | 8, _ => exact behindC_1_8
  | 9, _ => exact behindC_1_9
  | 10, _ => exact behindC_1_10
  | 11, _ => exact behindC_1_11
  | 12, _ => exact behindC_1_12
  | 13, _ => exact behindC_1_13
  | 14, _ => exact behindC_1_14
  | 15, _ => exact behindC_1_15
  | 16, _ => exact behindC_1_16
  | 17, _ => exact behindC_1_17
  | 18, _ => exact behindC_1_18
  | 19, _ => exact behindC_1_19
  | 20, _ => exact behindC_1_20
  | 21, _ => exact behindC_1_21
  | 22, _ => exact behindC_1_22
  | 23, _ => exact behindC_1_23
  | n + 24, h => omega
end Go.Proofs.Ytcldfmnkeiogdaa
set_option linter.unusedVariables false
set_option linter.unusedSimpArgs false
namespace Go.Proofs.Ytcldfmnkeiogdaa
open Go.Am Go.RowKit
theorem behindC_2_0 : behindC 2 0 = true := by kernel_rfl
theorem behindC_2_1 : behindC 2 1 = true := by kernel_rfl
theorem behindC_2_2 : behindC 2 2 = true := by kernel_rfl
theorem behindC_2_3 : behindC 2 3 = true := by kernel_rfl
theorem behindC_2_4 : behindC 2 4 = true := by kernel_rfl
theorem behindC_2_5 : behindC 2 5 = true := by kernel_rfl
theorem behindC_2_6 : behindC 2 6 = true := by kernel_rfl
theorem behindC_2_7 : behindC 2 7 = true := by kernel_rfl
theorem behindC_2_8 : behindC 2 8 = true := by kernel_rfl
theorem behindC_2_9 : behindC 2 9 = true := by kernel_rfl
theorem behindC_2_10 : behindC 2 10 = true := by kernel_rfl
theorem behindC_2_11 : behindC 2 11 = true := by kernel_rfl
theorem behindC_2_12 : behindC 2 12 = true := by kernel_rfl
theorem behindC_2_13 : behindC 2 13 = true := by kernel_rfl
theorem behindC_2_14 : behindC 2 14 = true := by kernel_rfl
theorem behindC_2_15 : behindC 2 15 = true := by kernel_rfl
theorem behindC_2_16 : behindC 2 16 = true := by kernel_rfl
theorem behindC_2_17 : behindC 2 17 = true := by kernel_rfl
theorem behindC_2_18 : behindC 2 18 = true := by kernel_rfl
theorem behindC_2_19 : behindC 2 19 = true := by kernel_rfl
theorem behindC_2_20 : behindC 2 20 = true := by kernel_rfl
theorem behindC_2_21 : behindC 2 21 = true := by kernel_rfl
theorem behindC_2_22 : behindC 2 22 = true := by kernel_rfl
theorem behindC_2_23 : behindC 2 23 = true := by kernel_rfl
theorem behindC_3_0 : behindC 3 0 = true := by kernel_rfl
theorem behindC_3_1 : behindC 3 1 = true := by kernel_rfl
theorem behindC_3_2 : behindC 3 2 = true := by kernel_rfl
theorem behindC_3_3 : behindC 3 3 = true := by kernel_rfl
theorem behindC_3_4 : behindC 3 4 = true := by kernel_rfl
theorem behindC_3_5 : behindC 3 5 = true := by kernel_rfl
theorem behindC_3_6 : behindC 3 6 = true := by kernel_rfl
theorem behindC_3_7 : behindC 3 7 = true := by kernel_rfl
theorem behindC_3_8 : behindC 3 8 = true := by kernel_rfl
theorem behindC_3_9 : behindC 3 9 = true := by kernel_rfl
theorem behindC_3_10 : behindC 3 10 = true := by kernel_rfl
theorem behindC_3_11 : behindC 3 11 = true := by kernel_rfl
theorem behindC_3_12 : behindC 3 12 = true := by kernel_rfl
theorem behindC_3_13 : behindC 3 13 = true := by kernel_rfl
theorem behindC_3_14 : behindC 3 14 = true := by kernel_rfl
theorem behindC_3_15 : behindC 3 15 = true := by kernel_rfl
theorem behindC_3_16 : behindC 3 16 = true := by kernel_rfl
theorem behindC_3_17 : behindC 3 17 = true := by kernel_rfl
theorem behindC_3_18 : behindC 3 18 = true := by kernel_rfl
theorem behindC_3_19 : behindC 3 19 = true := by kernel_rfl
theorem behindC_3_20 : behindC 3 20 = true := by kernel_rfl
theorem behindC_3_21 : behindC 3 21 = true := by kernel_rfl
theorem behindC_3_22 : behindC 3 22 = true := by kernel_rfl
theorem behindC_3_23 : behindC 3 23 = true := by kernel_rfl
theorem behindC_2 (m : Nat) (h : m < 24) : behindC 2 m = true := by
  match m, h with
  | 0, _ => exact behindC_2_0
  | 1, _ => exact behindC_2_1
  | 2, _ => exact behindC_2_2
  | 3, _ => exact behindC_2_3
  | 4, _ => exact behindC_2_4
  | 5, _ => exact behindC_2_5
  | 6, _ => exact behindC_2_6
  | 7, _ => exact behindC_2_7
  | 8, _ => exact behindC_2_8
  | 9, _ => exact behindC_2_9
  | 10, _ => exact behindC_2_10
  | 11, _ => exact behindC_2_11
  | 12, _ => exact behindC_2_12
  | 13, _ => exact behindC_2_13
  | 14, _ => exact behindC_2_14
  | 15, _ => exact behindC_2_15
  | 16, _ => exact behindC_2_16
  | 17, _ => exact behindC_2_17
  | 18, _ => exact behindC_2_18
  | 19, _ => exact behindC_2_19
  | 20, _ => exact behindC_2_20
  | 21, _ => exact behindC_2_21
  | 22, _ => exact behindC_2_22
  | 23, _ => exact behindC_2_23
  | n + 24, h => omega
theorem behindC_3 (m : Nat) (h : m < 24) : behindC 3 m = true := by
  match m, h with
  | 0, _ => exact behindC_3_0
  | 1, _ => exact behindC_3_1
  | 2, _ => exact behindC_3_2
  | 3, _ => exact behindC_3_3
  | 4, _ => exact behindC_3_4
  | 5, _ => exact behindC_3_5
  | 6, _ => exact behindC_3_6
  | 7, _ => exact behindC_3_7
  | 8, _ => exact behindC_3_8
  | 9, _ => exact behindC_3_9
  | 10, _ => exact behindC_3_10
  | 11, _ => exact behindC_3_11
  | 12, _ => exact behindC_3_12
  | 13, _ => exact behindC_3_13
  | 14, _ => exact behindC_3_14
  | 15, _ => exact behindC_3_15
  | 16, _ => exact behindC_3_16
  | 17, _ => exact behindC_3_17
  | 18, _ => exact behindC_3_18
  | 19, _ => exact behindC_3_19
  | 20, _ => exact behindC_3_20
  | 21, _ => exact behindC_3_21
  | 22, _ => exact behindC_3_22
  | 23, _ => exact behindC_3_23
  | n + 24, h => omega
end Go.Proofs.Ytcldfmnkeiogdaa
set_option linter.unusedVariables false
set_option linter.unusedSimpArgs false
namespace Go.Proofs.Ytcldfmnkeiogdaa
open Go.Am Go.RowKit
theorem behindC_4_0 : behindC 4 0 = true := by kernel_rfl
theorem behindC_4_1 : behindC 4 1 = true := by kernel_rfl
theorem behindC_4_2 : behindC 4 2 = true := by kernel_rfl
theorem behindC_4_3 : behindC 4 3 = true := by kernel_rfl
theorem behindC_4_4 : behindC 4 4 = true := by kernel_rfl
theorem behindC_4_5 : behindC 4 5 = true := by kernel_rfl
theorem behindC_4_6 : behindC 4 6 = true := by kernel_rfl
theorem behindC_4_7 : behindC 4 7 = true := by kernel_rfl
theorem behindC_4_8 : behindC 4 8 = true := by kernel_rfl
theorem behindC_4_9 : behindC 4 9 = true := by kernel_rfl
theorem behindC_4_10 : behindC 4 10 = true := by kernel_rfl
theorem behindC_4_11 : behindC 4 11 = true := by kernel_rfl
theorem behindC_4_12 : behindC 4 12 = true := by kernel_rfl
theorem behindC_4_13 : behindC 4 13 = true := by kernel_rfl
theorem behindC_4_14 : behindC 4 14 = true := by kernel_rfl
theorem behindC_4_15 : behindC 4 15 = true := by kernel_rfl
theorem behindC_4_16 : behindC 4 16 = true := by kernel_rfl
theorem behindC_4_17 : behindC 4 17 = true := by kernel_rfl
theorem behindC_4_18 : behindC 4 18 = true := by kernel_rfl
theorem behindC_4_19 : behindC 4 19 = true := by kernel_rfl
theorem behindC_4_20 : behindC 4 20 = true := by kernel_rfl
theorem behindC_4_21 : behindC 4 21 = true := by kernel_rfl
theorem behindC_4_22 : behindC 4 22 = true := by kernel_rfl
theorem behindC_4_23 : behindC 4 23 = true := by kernel_rfl
theorem behindC_5_0 : behindC 5 0 = true := by kernel_rfl
theorem behindC_5_1 : behindC 5 1 = true := by kernel_rfl
theorem behindC_5_2 : behindC 5 2 = true := by kernel_rfl
theorem behindC_5_3 : behindC 5 3 = true := by kernel_rfl
theorem behindC_5_4 : behindC 5 4 = true := by kernel_rfl
theorem behindC_5_5 : behindC 5 5 = true := by kernel_rfl
theorem behindC_5_6 : behindC 5 6 = true := by kernel_rfl
theorem behindC_5_7 : behindC 5 7 = true := by kernel_rfl
theorem behindC_5_8 : behindC 5 8 = true := by kernel_rfl
theorem behindC_5_9 : behindC 5 9 = true := by kernel_rfl
theorem behindC_5_10 : behindC 5 10 = true := by kernel_rfl
theorem behindC_5_11 : behindC 5 11 = true := by kernel_rfl
theorem behindC_5_12 : behindC 5 12 = true := by kernel_rfl
theorem behindC_5_13 : behindC 5 13 = true := by kernel_rfl
theorem behindC_5_14 : behindC 5 14 = true := by kernel_rfl
theorem behindC_5_15 : behindC 5 15 = true := by kernel_rfl
theorem behindC_5_16 : behindC 5 16 = true := by kernel_rfl
theorem behindC_5_17 : behindC 5 17 = true := by kernel_rfl
theorem behindC_5_18 : behindC 5 18 = true := by kernel_rfl
theorem behindC_5_19 : behindC 5 19 = true := by kernel_rfl
theorem behindC_5_20 : behindC 5 20 = true := by kernel_rfl
theorem behindC_5_21 : behindC 5 21 = true := by kernel_rfl
theorem behindC_5_22 : behindC 5 22 = true := by kernel_rfl
theorem behindC_5_23 : behindC 5 23 = true := by kernel_rfl
theorem behindC_4 (m : Nat) (h : m < 24) : behindC 4 m = true := by
  match m, h with
  | 0, _ => exact behindC_4_0
  | 1, _ => exact behindC_4_1
  | 2, _ => exact behindC_4_2
  | 3, _ => exact behindC_4_3
  | 4, _ => exact behindC_4_4
  | 5, _ => exact behindC_4_5
  | 6, _ => exact behindC_4_6
  | 7, _ => exact behindC_4_7
  | 8, _ => exact behindC_4_8
  | 9, _ => exact behindC_4_9
  | 10, _ => exact behindC_4_10
  | 11, _ => exact behindC_4_11
  | 12, _ => exact behindC_4_12
  | 13, _ => exact behindC_4_13
  | 14, _ => exact behindC_4_14
  | 15, _ => exact behindC_4_15
  | 16, _ => exact behindC_4_16
  | 17, _ => exact behindC_4_17
  | 18, _ => exact behindC_4_18
  | 19, _ => exact behindC_4_19
  | 20, _ => exact behindC_4_20
  | 21, _ => exact behindC_4_21
  | 22, _ => exact behindC_4_22
  | 23, _ => exact behindC_4_23
  | n + 24, h => omega
theorem behindC_5 (m : Nat) (h : m < 24) : behindC 5 m = true := by
  match m, h with
  | 0, _ => exact behindC_5_0
  | 1, _ => exact behindC_5_1
  | 2, _ => exact behindC_5_2
  | 3, _ => exact behindC_5_3
  | 4, _ => exact behindC_5_4
  | 5, _ => exact behindC_5_5
  | 6, _ => exact behindC_5_6
  | 7, _ => exact behindC_5_7
  | 8, _ => exact behindC_5_8
  | 9, _ => exact behindC_5_9
  | 10, _ => exact behindC_5_10
  | 11, _ => exact behindC_5_11
  | 12, _ => exact behindC_5_12
  | 13, _ => exact behindC_5_13
  | 14, _ => exact behindC_5_14
  | 15, _ => exact behindC_5_15
  | 16, _ => exact behindC_5_16
  | 17, _ => exact behindC_5_17
  | 18, _ => exact behindC_5_18
  | 19, _ => exact behindC_5_19
  | 20, _ => exact behindC_5_20
  | 21, _ => exact behindC_5_21
  | 22, _ => exact behindC_5_22
  | 23, _ => exact behindC_5_23
  | n + 24, h => omega
end Go.Proofs.Ytcldfmnkeiogdaa
set_option linter.unusedVariables false
set_option linter.unusedSimpArgs false
namespace Go.Proofs.Ytcldfmnkeiogdaa
open Go.Am Go.RowKit
theorem behindC_6_0 : behindC 6 0 = true := by kernel_rfl
theorem behindC_6_1 : behindC 6 1 = true := by kernel_rfl
theorem behindC_6_2 : behindC 6 2 = true := by kernel_rfl
theorem behindC_6_3 : behindC 6 3 = true := by kernel_rfl
theorem behindC_6_4 : behindC 6 4 = true := by kernel_rfl
theorem behindC_6_5 : behindC 6 5 = true := by kernel_rfl
theorem behindC_6_6 : behindC 6 6 = true := by kernel_rfl
theorem behindC_6_7 : behindC 6 7 = true := by kernel_rfl
theorem behindC_6_8 : behindC 6 8 = true := by kernel_rfl
theorem behindC_6_9 : behindC 6 9 = true := by kernel_rfl
theorem behindC_6_10 : behindC 6 10 = true := by kernel_rfl
theorem behindC_6_11 : behindC 6 11 = true := by kernel_rfl
theorem behindC_6_12 : behindC 6 12 = true := by kernel_rfl
theorem behindC_6_13 : behindC 6 13 = true := by kernel_rfl
theorem behindC_6_14 : behindC 6 14 = true := by kernel_rfl
theorem behindC_6_15 : behindC 6 15 = true := by kernel_rfl
theorem behindC_6_16 : behindC 6 16 = true := by kernel_rfl
theorem behindC_6_17 : behindC 6 17 = true := by kernel_rfl
theorem behindC_6_18 : behindC 6 18 = true := by kernel_rfl
theorem behindC_6_19 : behindC 6 19 = true := by kernel_rfl
theorem behindC_6_20 : behindC 6 20 = true := by kernel_rfl
theorem behindC_6_21 : behindC 6 21 = true := by kernel_rfl
theorem behindC_6_22 : behindC 6 22 = true := by kernel_rfl
theorem behindC_6_23 : behindC 6 23 = true := by kernel_rfl
theorem behindC_7_0 : behindC 7 0 = true := by kernel_rfl
theorem behindC_7_1 : behindC 7 1 = true := by kernel_rfl
theorem behindC_7_2 : behindC 7 2 = true := by kernel_rfl
theorem behindC_7_3 : behindC 7 3 = true := by kernel_rfl
theorem behindC_7_4 : behindC 7 4 = true := by kernel_rfl
theorem behindC_7_5 : behindC 7 5 = true := by kernel_rfl
theorem behindC_7_6 : behindC 7 6 = true := by kernel_rfl
theorem behindC_7_7 : behindC 7 7 = true := by kernel_rfl
theorem behindC_7_8 : behindC 7 8 = true := by kernel_rfl
theorem behindC_7_9 : behindC 7 9 = true := by kernel_rfl
theorem behindC_7_10 : behindC 7 10 = true := by kernel_rfl
theorem behindC_7_11 : behindC 7 11 = true := by kernel_rfl
theorem behindC_7_12 : behindC 7 12 = true := by kernel_rfl
theorem behindC_7_13 : behindC 7 13 = true := by kernel_rfl
theorem behindC_7_14 : behindC 7 14 = true := by kernel_rfl
theorem behindC_7_15 : behindC 7 15 = true := by kernel_rfl
theorem behindC_7_16 : behindC 7 16 = true := by kernel_rfl
theorem behindC_7_17 : behindC 7 17 = true := by kernel_rfl
theorem behindC_7_18 : behindC 7 18 = true := by kernel_rfl
theorem behindC_7_19 : behindC 7 19 = true := by kernel_rfl
theorem behindC_7_20 : behindC 7 20 = true := by kernel_rfl
theorem behindC_7_21 : behindC 7 21 = true := by kernel_rfl
theorem behindC_7_22 : behindC 7 22 = true := by kernel_rfl
theorem behindC_7_23 : behindC 7 23 = true := by kernel_rfl
theorem behindC_6 (m : Nat) (h : m < 24) : behindC 6 m = true := by
  match m, h with
  | 0, _ => exact behindC_6_0
  | 1, _ => exact behindC_6_1
  | 2, _ => exact behindC_6_2
  | 3, _ => exact behindC_6_3
  | 4, _ => exact behindC_6_4
  | 5, _ => exact behindC_6_5
  | 6, _ => exact behindC_6_6
  | 7, _ => exact behindC_6_7
  | 8, _ => exact behindC_6_8
  | 9, _ => exact behindC_6_9
  | 10, _ => exact behindC_6_10
  | 11, _ => exact behindC_6_11
  | 12, _ => exact behindC_6_12
  | 13, _ => exact behindC_6_13
  | 14, _ => exact behindC_6_14
  | 15, _ => exact behindC_6_15
  | 16, _ => exact behindC_6_16
  | 17, _ => exact behindC_6_17
  | 18, _ => exact behindC_6_18
  | 19, _ => exact behindC_6_19
  | 20, _ => exact behindC_6_20
  | 21, _ => exact behindC_6_21
  | 22, _ => exact behindC_6_22
  | 23, _ => exact behindC_6_23
  | n + 24, h => omega
theorem behindC_7 (m : Nat) (h : m < 24) : behindC 7 m = true := by
  match m, h with
  | 0, _ => exact behindC_7_0
  | 1, _ => exact behindC_7_1
  | 2, _ => exact behindC_7_2
  | 3, _ => exact behindC_7_3
  | 4, _ => exact behindC_7_4
  | 5, _ => exact behindC_7_5
  | 6, _ => exact behindC_7_6
  | 7, _ => exact behindC_7_7
  | 8, _ => exact behindC_7_8
  | 9, _ => exact behindC_7_9
  | 10, _ => exact behindC_7_10
  | 11, _ => exact behindC_7_11
  | 12, _ => exact behindC_7_12
  | 13, _ => exact behindC_7_13
  | 14, _ => exact behindC_7_14
  | 15, _ => exact behindC_7_15
  | 16, _ => exact behindC_7_16
  | 17, _ => exact behindC_7_17
  | 18, _ => exact behindC_7_18
  | 19, _ => exact behindC_7_19
  | 20, _ => exact behindC_7_20
  | 21, _ => exact behindC_7_21
  | 22, _ => exact behindC_7_22
  | 23, _ => exact behindC_7_23
  | n + 24, h => omega
end Go.Proofs.Ytcldfmnkeiogdaa
set_option linter.unusedVariables false
set_option linter.unusedSimpArgs false
namespace Go.Proofs.Ytcldfmnkeiogdaa
open Go.Am Go.RowKit
theorem behindC_8_0 : behindC 8 0 = true := by kernel_rfl
theorem behindC_8_1 : behindC 8 1 = true := by kernel_rfl
theorem behindC_8_2 : behindC 8 2 = true := by kernel_rfl
theorem behindC_8_3 : behindC 8 3 = true := by kernel_rfl
theorem behindC_8_4 : behindC 8 4 = true := by kernel_rfl
theorem behindC_8_5 : behindC 8 5 = true := by kernel_rfl
theorem behindC_8_6 : behindC 8 6 = true := by kernel_rfl
theorem behindC_8_7 : behindC 8 7 = true := by kernel_rfl
theorem behindC_8_8 : behindC 8 8 = true := by kernel_rfl
theorem behindC_8_9 : behindC 8 9 = true := by kernel_rfl
theorem behindC_8_10 : behindC 8 10 = true := by kernel_rfl
theorem behindC_8_11 : behindC 8 11 = true := by kernel_rfl
theorem behindC_8_12 : behindC 8 12 = true := by kernel_rfl
theorem behindC_8_13 : behindC 8 13 = true := by kernel_rfl
theorem behindC_8_14 : behindC 8 14 = true := by kernel_rfl
theorem behindC_8_15 : behindC 8 15 = true := by kernel_rfl
theorem behindC_8_16 : behindC 8 16 = true := by kernel_rfl
theorem behindC_8_17 : behindC 8 17 = true := by kernel_rfl
theorem behindC_8_18 : behindC 8 18 = true := by kernel_rfl
theorem behindC_8_19 : behindC 8 19 = true := by kernel_rfl
theorem behindC_8_20 : behindC 8 20 = true := by kernel_rfl
theorem behindC_8_21 : behindC 8 21 = true := by kernel_rfl
theorem behindC_8_22 : behindC 8 22 = true := by kernel_rfl
theorem behindC_8_23 : behindC 8 23 = true := by kernel_rfl
theorem behindC_9_0 : behindC 9 0 = true := by kernel_rfl
theorem behindC_9_1 : behindC 9 1 = true := by kernel_rfl
theorem behindC_9_2 : behindC 9 2 = true := by kernel_rfl
theorem behindC_9_3 : behindC 9 3 = true := by kernel_rfl
theorem behindC_9_4 : behindC 9 4 = true := by kernel_rfl
theorem behindC_9_5 : behindC 9 5 = true := by kernel_rfl
theorem behindC_9_6 : behindC 9 6 = true := by kernel_rfl
theorem behindC_9_7 : behindC 9 7 = true := by kernel_rfl
theorem behindC_9_8 : behindC 9 8 = true := by kernel_rfl
theorem behindC_9_9 : behindC 9 9 = true := by kernel_rfl
theorem behindC_9_10 : behindC 9 10 = true := by kernel_rfl
theorem behindC_9_11 : behindC 9 11 = true := by kernel_rfl
theorem behindC_9_12 : behindC 9 12 = true := by kernel_rfl
theorem behindC_9_13 : behindC 9 13 = true := by kernel_rfl
theorem behindC_9_14 : behindC 9 14 = true := by kernel_rfl
theorem behindC_9_15 : behindC 9 15 = true := by kernel_rfl
theorem behindC_9_16 : behindC 9 16 = true := by kernel_rfl
theorem behindC_9_17 : behindC 9 17 = true := by kernel_rfl
theorem behindC_9_18 : behindC 9 18 = true := by kernel_rfl
theorem behindC_9_19 : behindC 9 19 = true := by kernel_rfl
theorem behindC_9_20 : behindC 9 20 = true := by kernel_rfl
theorem behindC_9_21 : behindC 9 21 = true := by kernel_rfl
theorem behindC_9_22 : behindC 9 22 = true := by kernel_rfl
theorem behindC_9_23 : behindC 9 23 = true := by kernel_rfl
theorem behindC_8 (m : Nat) (h : m < 24) : behindC 8 m = true := by
  match m, h with
  | 0, _ => exact behindC_8_0
  | 1, _ => exact behindC_8_1
  | 2, _ => exact behindC_8_2
  | 3, _ => exact behindC_8_3
  | 4, _ => exact behindC_8_4
  | 5, _ => exact behindC_8_5
  | 6, _ => exact behindC_8_6
  | 7, _ => exact behindC_8_7
  | 8, _ => exact behindC_8_8
  | 9, _ => exact behindC_8_9
  | 10, _ => exact behindC_8_10
  | 11, _ => exact behindC_8_11
  | 12, _ => exact behindC_8_12
  | 13, _ => exact behindC_8_13
  | 14, _ => exact behindC_8_14
  | 15, _ => exact behindC_8_15
  | 16, _ => exact behindC_8_16
  | 17, _ => exact behindC_8_17
  | 18, _ => exact behindC_8_18
  | 19, _ => exact behindC_8_19
  | 20, _ => exact behindC_8_20
  | 21, _ => exact behindC_8_21
  | 22, _ => exact behindC_8_22
  | 23, _ => exact behindC_8_23
  | n + 24, h => omega
theorem behindC_9 (m : Nat) (h : m < 24) : behindC 9 m = true := by
  match m, h with
  | 0, _ => exact behindC_9_0
  | 1, _ => exact behindC_9_1
  | 2, _ => exact behindC_9_2
  | 3, _ => exact behindC_9_3
  | 4, _ => exact behindC_9_4
  | 5, _ => exact behindC_9_5
  | 6, _ => exact behindC_9_6
  | 7, _ => exact behindC_9_7
  | 8, _ => exact behindC_9_8
  | 9, _ => exact behindC_9_9
  | 10, _ => exact behindC_9_10
  | 11, _ => exact behindC_9_11
  | 12, _ => exact behindC_9_12
  | 13, _ => exact behindC_9_13
  | 14, _ => exact behindC_9_14
  | 15, _ => exact behindC_9_15
  | 16, _ => exact behindC_9_16
  | 17, _ => exact behindC_9_17
  | 18, _ => exact behindC_9_18
  | 19, _ => exact behindC_9_19
  | 20, _ => exact behindC_9_20
  | 21, _ => exact behindC_9_21
  | 22, _ => exact behindC_9_22
  | 23, _ => exact behindC_9_23
  | n + 24, h => omega
end Go.Proofs.Ytcldfmnkeiogdaa
set_option linter.unusedVariables false
set_option linter.unusedSimpArgs false
namespace Go.Proofs.Ytcldfmnkeiogdaa
open Go.Am Go.RowKit
theorem behindC_10_0 : behindC 10 0 = true := by kernel_rfl
theorem behindC_10_1 : behindC 10 1 = true := by kernel_rfl
theorem behindC_10_2 : behindC 10 2 = true := by kernel_rfl
theorem behindC_10_3 : behindC 10 3 = true := by kernel_rfl
theorem behindC_10_4 : behindC 10 4 = true := by kernel_rfl
theorem behindC_10_5 : behindC 10 5 = true := by kernel_rfl
theorem behindC_10_6 : behindC 10 6 = true := by kernel_rfl
theorem behindC_10_7 : behindC 10 7 = true := by kernel_rfl
theorem behindC_10_8 : behindC 10 8 = true := by kernel_rfl
theorem behindC_10_9 : behindC 10 9 = true := by kernel_rfl
theorem behindC_10_10 : behindC 10 10 = true := by kernel_rfl
theorem behindC_10_11 : behindC 10 11 = true := by kernel_rfl
theorem behindC_10_12 : behindC 10 12 = true := by kernel_rfl
theorem behindC_10_13 : behindC 10 13 = true := by kernel_rfl
theorem behindC_10_14 : behindC 10 14 = true := by kernel_rfl
theorem behindC_10_15 : behindC 10 15 = true := by kernel_rfl
theorem behindC_10_16 : behindC 10 16 = true := by kernel_rfl
theorem behindC_10_17 : behindC 10 17 = true := by kernel_rfl
theorem behindC_10_18 : behindC 10 18 = true := by kernel_rfl
theorem behindC_10_19 : behindC 10 19 = true := by kernel_rfl
theorem behindC_10_20 : behindC 10 20 = true := by kernel_rfl
theorem behindC_10_21 : behindC 10 21 = true := by kernel_rfl
theorem behindC_10_22 : behindC 10 22 = true := by kernel_rfl
theorem behindC_10_23 : behindC 10 23 = true := by kernel_rfl
theorem behindC_11_0 : behindC 11 0 = true := by kernel_rfl
theorem behindC_11_1 : behindC 11 1 = true := by kernel_rfl
theorem behindC_11_2 : behindC 11 2 = true := by kernel_rfl
theorem behindC_11_3 : behindC 11 3 = true := by kernel_rfl
theorem behindC_11_4 : behindC 11 4 = true := by kernel_rfl
theorem behindC_11_5 : behindC 11 5 = true := by kernel_rfl
theorem behindC_11_6 : behindC 11 6 = true := by kernel_rfl
theorem behindC_11_7 : behindC 11 7 = true := by kernel_rfl
theorem behindC_11_8 : behindC 11 8 = true := by kernel_rfl
theorem behindC_11_9 : behindC 11 9 = true := by kernel_rfl
theorem behindC_11_10 : behindC 11 10 = true := by kernel_rfl
theorem behindC_11_11 : behindC 11 11 = true := by kernel_rfl
theorem behindC_11_12 : behindC 11 12 = true := by kernel_rfl
theorem behindC_11_13 : behindC 11 13 = true := by kernel_rfl
theorem behindC_11_14 : behindC 11 14 = true := by kernel_rfl
theorem behindC_11_15 : behindC 11 15 = true := by kernel_rfl
theorem behindC_11_16 : behindC 11 16 = true := by kernel_rfl
theorem behindC_11_17 : behindC 11 17 = true := by kernel_rfl
theorem behindC_11_18 : behindC 11 18 = true := by kernel_rfl
theorem behindC_11_19 : behindC 11 19 = true := by kernel_rfl
theorem behindC_11_20 : behindC 11 20 = true := by kernel_rfl
theorem behindC_11_21 : behindC 11 21 = true := by kernel_rfl
theorem behindC_11_22 : behindC 11 22 = true := by kernel_rfl
theorem behindC_11_23 : behindC 11 23 = true := by kernel_rfl
theorem behindC_10 (m : Nat) (h : m < 24) : behindC 10 m = true := by
  match m, h with
  | 0, _ => exact behindC_10_0
  | 1, _ => exact behindC_10_1
  | 2, _ => exact behindC_10_2
  | 3, _ => exact behindC_10_3
  | 4, _ => exact behindC_10_4
  | 5, _ => exact behindC_10_5
  | 6, _ => exact behindC_10_6
  | 7, _ => exact behindC_10_7
  | 8, _ => exact behindC_10_8
  | 9, _ => exact behindC_10_9
  | 10, _ => exact behindC_10_10
  | 11, _ => exact behindC_10_11
  | 12, _ => exact behindC_10_12
  | 13, _ => exact behindC_10_13
  | 14, _ => exact behindC_10_14
  | 15, _ => exact behindC_10_15
  | 16, _ => exact behindC_10_16
  | 17, _ => exact behindC_10_17
  | 18, _ => exact behindC_10_18
  | 19, _ => exact behindC_10_19
  | 20, _ => exact behindC_10_20
  | 21, _ => exact behindC_10_21
  | 22, _ => exact behindC_10_22
  | 23, _ => exact behindC_10_23
  | n + 24, h => omega
theorem behindC_11 (m : Nat) (h : m < 24) : behindC 11 m = true := by
  match m, h with
  | 0, _ => exact behindC_11_0
  | 1, _ => exact behindC_11_1
  | 2, _ => exact behindC_11_2
  | 3, _ => exact behindC_11_3
  | 4, _ => exact behindC_11_4
  | 5, _ => exact behindC_11_5
  | 6, _ => exact behindC_11_6
  | 7, _ => exact behindC_11_7
  | 8, _ => exact behindC_11_8
  | 9, _ => exact behindC_11_9
  | 10, _ => exact behindC_11_10
  | 11, _ => exact behindC_11_11
  | 12, _ => exact behindC_11_12
  | 13, _ => exact behindC_11_13
  | 14, _ => exact behindC_11_14
  | 15, _ => exact behindC_11_15
  | 16, _ => exact behindC_11_16
  | 17, _ => exact behindC_11_17
  | 18, _ => exact behindC_11_18
  | 19, _ => exact behindC_11_19
  | 20, _ => exact behindC_11_20
  | 21, _ => exact behindC_11_21
  | 22, _ => exact behindC_11_22
  | 23, _ => exact behindC_11_23
  | n + 24, h => omega
end Go.Proofs.Ytcldfmnkeiogdaa
