/- The frame of all our walks, rows: an argument that holds a slice of triples, read out of the world. No condition. -/
import Derived.Test.YtbheeobnghlckaaAmN
import Derived.WalkKit
import Derived.ProofKit
import Derived.OpenShut
import Derived.ChangeOld
import Derived.Below
import Derived.SizedLaws
set_option linter.unusedVariables false
set_option linter.unusedSimpArgs false
namespace Go.Am
open Go.RowKit Go.ChangeShapes Go.WideShapes Go.ChangeAt

section
variable {H : Type} {enc : TypeId × Value → H} {P : Program} {W : World} {base : Nat} {spare : Nat → Bool} {held : Bool}

theorem a3_of_trod {ta ti : TypeId} {fuel : Nat} {cs : List Value} {x : DataW H × List MemPlace} (hta : P.underlying ta = some (.array 3 ti)) (hti : P.underlying ti = some (.int .i64)) (hci : P.cellsOf ti = 1) (hca : P.cellsOf ta = 3)
    (h : DataW.trod enc P W base spare held fuel ta cs = some x) : ∃ c : A3, cs = c.cs := by
  obtain ⟨xs, m, _, _, hl, hx, hel⟩ := DataW.trod_array hta h
  rw [hca] at hl
  have one : ∀ i, i < 3 → ∃ n : Int, cs[i]? = some (.int .i64 n) := by
    intro i hi
    have hi' := hel i hi
    rw [hci, Nat.mul_one] at hi'
    rw [List.getElem?_eq_getElem (by omega)] at hi'
    obtain ⟨n, hn, _⟩ := DataW.trod_int hti hi'
    refine ⟨n, ?_⟩
    have h2 : ((cs.drop i).take 1)[0]? = some (.int .i64 n) := by rw [hn]; rfl
    rw [List.getElem?_take_of_lt (by omega), List.getElem?_drop, Nat.add_zero] at h2
    exact h2
  obtain ⟨a, ha⟩ := one 0 (by omega)
  obtain ⟨b, hb⟩ := one 1 (by omega)
  obtain ⟨c, hc⟩ := one 2 (by omega)
  have e : ∃ u v w, cs = [u, v, w] := by
    clear ha hb hc one hel h
    match cs, hl with
    | [u, v, w], _ => exact ⟨u, v, w, rfl⟩
  obtain ⟨u, v, w, rfl⟩ := e
  simp only [List.getElem?_cons_zero, List.getElem?_cons_succ, Option.some.injEq] at ha hb hc
  subst ha hb hc
  exact ⟨⟨a, b, c⟩, rfl⟩

theorem open_a3s {ts ta ti : TypeId} {fuel : Nat} {cs : List Value} {x : DataW H × List MemPlace} (hts : P.underlying ts = some (.slice ta)) (hta : P.underlying ta = some (.array 3 ti)) (hti : P.underlying ti = some (.int .i64)) (hci : P.cellsOf ti = 1) (hca : P.cellsOf ta = 3)
    (h : DataW.trod enc P W base spare held fuel ts cs = some x) :
    cs = [.slice none 0 0] ∨ ∃ (a : Addr) (cap : Nat) (L : List A3), cs = [.slice (some a) L.length cap] ∧ L.length ≤ cap ∧ cap ≤ maxLen ∧ ∀ (j : Nat) (v : Value), (a3s L)[j]? = some v → W.cell? (a.add j) = some v := by
  rcases DataW.trod_slice hts h with h0 | ⟨a, len, cap, elems, rest, n, _, rfl, rfl, hb, hl, hm, hlen, hel, _, _⟩
  · exact Or.inl h0.1
  right
  have each : ∀ i, i < len → ∃ c : A3, W.cells? base (a.add (i * 3)) 3 = some c.cs := by
    intro i hi
    have := hel i hi
    rw [hca, List.getElem?_eq_getElem (by omega), Option.bind_eq_some_iff] at this
    obtain ⟨cs', h1, h2⟩ := this
    obtain ⟨c, rfl⟩ := a3_of_trod hta hti hci hca h2
    exact ⟨c, h1⟩
  have key : ∀ k, k ≤ len → ∃ L : List A3, L.length = k ∧ ∀ (i : Nat) (c : A3), L[i]? = some c → W.cells? base (a.add (i * 3)) 3 = some c.cs := by
    intro k
    induction k with
    | zero => exact fun _ => ⟨[], rfl, fun i c hc => by simp at hc⟩
    | succ k ih =>
      intro hk
      obtain ⟨L, hL, hall⟩ := ih (by omega)
      obtain ⟨c, hc⟩ := each k (by omega)
      refine ⟨L ++ [c], by simp [hL], fun i d hd => ?_⟩
      rcases Nat.lt_or_ge i L.length with h | h
      · rw [List.getElem?_append_left h] at hd; exact hall i d hd
      · rw [List.getElem?_append_right h] at hd
        have : i = k := by
          have := lt_of_some hd
          simp at this
          omega
        subst this
        rw [hL, Nat.sub_self] at hd
        simp at hd
        subst hd
        exact hc
  obtain ⟨L, hL, hall⟩ := key len (Nat.le_refl _)
  refine ⟨a, cap, L, by rw [hL], by omega, hm, fun j v hv => ?_⟩
  have hj := lt_of_some hv
  rw [a3s_length] at hj
  have hi : j / 3 < L.length := by omega
  have hcell := a3s_cell L (j / 3) hi (j % 3) (Nat.mod_lt _ (by omega))
  rw [show j / 3 * 3 + j % 3 = j by omega, hv] at hcell
  have hc := hall (j / 3) (L.getD (j / 3) default) (by rw [List.getD_eq_getElem?_getD, List.getElem?_eq_getElem hi]; rfl)
  have h3 := (World.cells?_some hc)
  have hget := h3.2.2
  have := hget (j % 3) (Nat.mod_lt _ (by omega))
  rw [← hcell] at this
  have e : (a.add (j / 3 * 3)).add (j % 3) = a.add j := by
    unfold Addr.add
    by_cases h1 : j / 3 * 3 = 0
    · rw [if_pos h1]
      have : j % 3 = j := by omega
      rw [this]
    · rw [if_neg h1]
      by_cases h2 : j % 3 = 0
      · rw [if_pos h2, if_neg (by omega)]
        have : j / 3 * 3 = j := by omega
        rw [this]
      · rw [if_neg h2, if_neg (by omega)]
        simp only [Addr.mk.injEq, and_true, true_and]
        omega
  rw [e] at this
  exact this
end

theorem repRow_a3s {P : Program} {ρ : Ren} {W : World} {a : Addr} {cap : Nat} {L : List A3} {ta : TypeId} {n : Nat} (hca : P.cellsOf ta = 3) (hs : P.underlying ta ≠ none → W.has P .any n a ta cap) (hu : P.underlying ta ≠ none)
    (hcell : ∀ (j : Nat) (v : Value), (a3s L)[j]? = some v → W.cell? (a.add j) = some v) (hlen : L.length ≤ cap) : RepRow P ρ W ⟨a.block, a.off, cap⟩ ⟨a3s L, ta, false, false⟩ := by
  obtain ⟨_, hspot, row, cells, hsh, _⟩ := hs hu
  unfold World.shape? at hsh
  split at hsh
  · rename_i cur e fz hb
    refine ⟨⟨cur, e, fz, hb, fun j v hv => ?_, fun h => (by cases h), fun _ => ?_⟩, fun v hv => ?_⟩
    · have h := hcell j v hv
      have hfl := flatA3 L ta false false v (List.mem_of_getElem? hv)
      rw [mapS, hfl.2]
      unfold World.cell? at h
      have hab : (a.add j).block = a.block := by unfold Addr.add; split <;> rfl
      have hao : (a.add j).off = a.off + j := by
        unfold Addr.add
        split
        · rename_i h0; rw [h0, Nat.add_zero]
        · rfl
      rw [hab, hb] at h
      simp only at h
      split at h
      · cases h
      · rw [hao] at h; exact h
    · simp only [a3s_length, hca]; omega
    · exact scal_flat ((List.all_eq_true.1 (a3s_all L)) v hv)
  · cases hsh

theorem rep_ro {P : Program} {ρ : Ren} {W : World} {H : Heap} (hf : FlatH H) (h : ∀ (i : Nat) (r : Row), H[i]? = some (some r) → r.wr = false ∧ RepRow P ρ W (ρ i) r) : Rep P ρ H W :=
  ⟨fun i r hi => (h i r hi).2, (fun i j r s hi hj hw => by rw [(h i r hi).1] at hw; cases hw), hf.closed⟩

/-- a struct of three whole numbers and a slice of triples -/
theorem open_heap {HT : Type} {enc : TypeId × Value → HT} {P : Program} {W : World} {base b0 : Nat} {spare : Nat → Bool} {held : Bool} {t ti ts ta : TypeId} {f0 f1 f2 f3 : Field} {v : Value} {d : DataW HT} {ps : List MemPlace}
    (hu : P.underlying t = some (.struct #[f0, f1, f2, f3])) (h0 : f0.type = ti ∧ f0.offset = 0) (h1 : f1.type = ti ∧ f1.offset = 1) (h2 : f2.type = ti ∧ f2.offset = 2) (h3 : f3.type = ts ∧ f3.offset = 3)
    (hts : P.underlying ts = some (.slice ta)) (hta : P.underlying ta = some (.array 3 ti)) (hti : P.underlying ti = some (.int .i64)) (hci : P.cellsOf ti = 1) (hca : P.cellsOf ta = 3) (hcs : P.cellsOf ts = 1) (hct : P.cellsOf t = 4)
    (htys : P.cellTypes P.depth t = some [ti, ti, ti, ts]) (hval : Value.okWide P W .any b0 t v) (hd : DataW.Trod enc P W base spare held t v d ps) :
    ∃ x y z : Int, (Lit.int .i64 x).wf = true ∧ (Lit.int .i64 y).wf = true ∧ (Lit.int .i64 z).wf = true ∧ (v = .agg #[.int .i64 x, .int .i64 y, .int .i64 z, .slice none 0 0] ∨
      ∃ (a : Addr) (cap : Nat) (L : List A3), v = .agg #[.int .i64 x, .int .i64 y, .int .i64 z, .slice (some a) L.length cap] ∧ L.length ≤ cap ∧ cap ≤ maxLen ∧ a.spot = none ∧ W.has P .any b0 a ta cap ∧ ∀ (j : Nat) (u : Value), (a3s L)[j]? = some u → W.cell? (a.add j) = some u) := by
  unfold Value.okWide at hval
  rw [hu] at hval
  simp only at hval
  obtain ⟨cs, rfl, hsz, ts', hty, _, hok⟩ := hval
  obtain ⟨fuel, hd⟩ := hd
  obtain ⟨xs, m, _, _, hlen, hxs, hel⟩ := DataW.trod_struct hu hd
  rw [hct] at hsz
  obtain ⟨l, rfl⟩ : ∃ l, cs = List.toArray l := ⟨cs.toList, by simp⟩
  match l, hsz with
  | [c0, c1, c2, c3], _ =>
    have el : ∀ (i : Nat) (f : Field), #[f0, f1, f2, f3][i]? = some f → ∃ y, DataW.trod enc P W base spare held m f.type (([c0, c1, c2, c3].drop f.offset).take (P.cellsOf f.type)) = some y := by
      intro i f hf
      have h := hel i f hf
      have hi : i < xs.length := by rw [hxs]; exact (Array.getElem?_eq_some_iff.1 hf).1
      rw [List.getElem?_eq_getElem hi] at h
      exact ⟨_, h⟩
    obtain ⟨y0, e0⟩ := el 0 f0 rfl
    obtain ⟨y1, e1⟩ := el 1 f1 rfl
    obtain ⟨y2, e2⟩ := el 2 f2 rfl
    obtain ⟨y3, e3⟩ := el 3 f3 rfl
    rw [h0.1, h0.2, hci] at e0
    rw [h1.1, h1.2, hci] at e1
    rw [h2.1, h2.2, hci] at e2
    rw [h3.1, h3.2, hcs] at e3
    simp only [List.drop_zero, List.drop_succ_cons, List.take_succ_cons, List.take_zero] at e0 e1 e2 e3
    obtain ⟨x, hx, _, wx⟩ := DataW.trod_int hti e0
    obtain ⟨y, hy, _, wy⟩ := DataW.trod_int hti e1
    obtain ⟨z, hz, _, wz⟩ := DataW.trod_int hti e2
    simp at hx hy hz
    subst hx hy hz
    refine ⟨x, y, z, wx, wy, wz, ?_⟩
    rcases open_a3s hts hta hti hci hca e3 with h | ⟨a, cap, L, h, hl, hm, hcell⟩
    · simp at h; subst h; exact Or.inl rfl
    · simp at h
      subst h
      right
      rw [hty] at htys
      simp only [Option.some.injEq] at htys
      subst htys
      obtain ⟨u, hu3, hc⟩ := hok 3 (.slice (some a) L.length cap) rfl
      simp at hu3
      subst hu3
      have hc2 : Cell.ok P W .any b0 ts (.slice (some a) L.length cap) := by
        unfold Cell.okWide at hc
        rw [hts] at hc
        exact hc
      unfold Cell.ok at hc2
      rw [hts] at hc2
      exact ⟨a, cap, L, rfl, hl, hm, hc2.2.2.2.1, hc2.2.2, hcell⟩

/-- one argument's row -/
theorem rep_one {P : Program} {W : World} {a : Addr} {cap b0 : Nat} {L : List A3} {ta : TypeId} (hca : P.cellsOf ta = 3) (hs : W.has P .any b0 a ta cap) (hu : P.underlying ta ≠ none)
    (hcell : ∀ (j : Nat) (v : Value), (a3s L)[j]? = some v → W.cell? (a.add j) = some v) (hlen : L.length ≤ cap) : Rep P (fun _ => ⟨a.block, a.off, cap⟩) [some ⟨a3s L, ta, false, false⟩] W :=
  rep_ro (FlatH.nil.cons (flatA3 _ _ _ _)) fun i r hi => by
    cases i with
    | zero => simp at hi; subst hi; exact ⟨rfl, repRow_a3s hca (fun _ => hs) hu hcell hlen⟩
    | succ i => simp at hi

end Go.Am
namespace Go.Am
open Go.RowKit Go.ChangeShapes Go.WideShapes Go.ChangeAt
theorem open_a3 {HT : Type} {enc : TypeId × Value → HT} {P : Program} {W : World} {base b0 : Nat} {spare : Nat → Bool} {held : Bool} {ta ti : TypeId} {v : Value} {d : DataW HT} {ps : List MemPlace} (hta : P.underlying ta = some (.array 3 ti)) (hti : P.underlying ti = some (.int .i64)) (hci : P.cellsOf ti = 1) (hca : P.cellsOf ta = 3)
    (hval : Value.okWide P W .any b0 ta v) (hd : DataW.Trod enc P W base spare held ta v d ps) : ∃ a b c : Int, v = .agg #[.int .i64 a, .int .i64 b, .int .i64 c] := by
  unfold Value.okWide at hval
  rw [hta] at hval
  simp only at hval
  obtain ⟨cs, rfl, _, _⟩ := hval
  obtain ⟨fuel, hd⟩ := hd
  obtain ⟨c, hc⟩ := a3_of_trod hta hti hci hca hd
  refine ⟨c.x, c.y, c.z, ?_⟩
  have : cs.toList = c.cs := hc
  rw [← Array.toArray_toList (xs := cs), this]
  rfl
end Go.Am
namespace Go.Am
open Go.RowKit Go.ChangeShapes Go.WideShapes Go.ChangeAt
/-- two arguments' rows -/
theorem rep_two {P : Program} {W : World} {a b : Addr} {cap cap2 b0 : Nat} {L M : List A3} {ta : TypeId} (hca : P.cellsOf ta = 3) (hu : P.underlying ta ≠ none) (hs : W.has P .any b0 a ta cap) (hcell : ∀ (j : Nat) (v : Value), (a3s L)[j]? = some v → W.cell? (a.add j) = some v) (hlen : L.length ≤ cap)
    (hs2 : W.has P .any b0 b ta cap2) (hcell2 : ∀ (j : Nat) (v : Value), (a3s M)[j]? = some v → W.cell? (b.add j) = some v) (hlen2 : M.length ≤ cap2) :
    Rep P (fun i => if i = 0 then ⟨a.block, a.off, cap⟩ else ⟨b.block, b.off, cap2⟩) [some ⟨a3s L, ta, false, false⟩, some ⟨a3s M, ta, false, false⟩] W :=
  rep_ro ((FlatH.nil.cons (flatA3 _ _ _ _)).cons (flatA3 _ _ _ _)) fun i r hi => by
    match i, hi with
    | 0, hi => simp at hi; subst hi; exact ⟨rfl, repRow_a3s hca (fun _ => hs) hu hcell hlen⟩
    | 1, hi => simp at hi; subst hi; exact ⟨rfl, repRow_a3s hca (fun _ => hs2) hu hcell2 hlen2⟩
    | i + 2, hi => simp at hi
end Go.Am
