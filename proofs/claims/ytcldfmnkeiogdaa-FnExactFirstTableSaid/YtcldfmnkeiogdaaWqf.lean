/- The whole search: what impl.tables' closure answers, visiting by 68. No condition. -/
import Derived.Test.YtcldfmnkeiogdaaWq
import Derived.Test.YtcldfmnkeiogdaaWqz
namespace Go.Proofs.Ytcldfmnkeiogdaa
open Go.RowKit S Go.Proofs.YtcldfmnkeiogdaaW.PrintWords Go.Proofs.YtcldfmnkeiogdaaW.PrintLast Go.Proofs.YtcldfmnkeiogdaaW.PrintMore
section
variable {σ : Type} (step : σ → Int → σ × Bool) (X : σ → World → Prop) (W0 : World) (ab c : Nat) (rows : List Int) (n cl br bn bl bv bf g bc bd : Nat)
  (hX0 : ∀ s w w', w'.heap = w.heap → X s w → X s w') (hXg : ∀ s w w', (∀ k, k ≠ g → w'.heap[k]? = w.heap[k]?) → X s w → X s w')
  (hne : br ≠ g ∧ bn ≠ g ∧ bl ≠ g ∧ bv ≠ g ∧ bf ≠ g) (hg0 : W0.heap.size ≤ g) (hn0 : 0 < n) (hn4 : n ≤ 4) (hR : rows.length ≤ 4) (hab : ab < W0.heap.size)
  (hrc : ∀ (j : Nat) (v : Int), rows[j]? = some v → W0.cell? ⟨ab, j, none⟩ = some (.int .i64 v)) (hrb : ∀ v ∈ rows, 0 ≤ v ∧ v ≤ 4)
  (hV : ∀ (s : σ) (m : Int) (left : List Int) (w : World), Mem X W0 (some ⟨ab, 0, none⟩) c rows n cl br bn bl bv bf g (.func (.func 68) #[] #[.pointer (some ⟨bc, 0, none⟩), .pointer (some ⟨bd, 0, none⟩)]) (.func (.func 81) #[] #[.pointer (some ⟨bn, 0, none⟩), .pointer (some ⟨br, 0, none⟩), .pointer (some ⟨bl, 0, none⟩), .pointer (some ⟨bv, 0, none⟩), .pointer (some ⟨bf, 0, none⟩)]) (left) (s) w → Calls Try.prog 68 #[.int .u64 m, .pointer (some ⟨bc, 0, none⟩), .pointer (some ⟨bd, 0, none⟩)] w fun e w' => e = .returned (.bool (step s m).2) ∧ Mem X W0 (some ⟨ab, 0, none⟩) c rows n cl br bn bl bv bf g (.func (.func 68) #[] #[.pointer (some ⟨bc, 0, none⟩), .pointer (some ⟨bd, 0, none⟩)]) (.func (.func 81) #[] #[.pointer (some ⟨bn, 0, none⟩), .pointer (some ⟨br, 0, none⟩), .pointer (some ⟨bl, 0, none⟩), .pointer (some ⟨bv, 0, none⟩), .pointer (some ⟨bf, 0, none⟩)]) (left) ((step s m).1) w')
include hX0 hXg hne hg0 hn0 hn4 hR hab hrc hrb hV
theorem fill68 : ∀ (d : Nat) (pre suf rest : List Int) (i q : Nat) (row mask : Int) (s : σ) (w : World), suf.length + n * rest.length ≤ d → pre.length + suf.length = n → (suf = [] ∨ pre ≠ []) → q + rest.length = rows.length → i + suf.length = n * q → rest = rows.drop q → 0 ≤ row → row ≤ 4 → (∀ x ∈ pre ++ suf, 0 ≤ x ∧ x ≤ 4) → Mem X W0 (some ⟨ab, 0, none⟩) c rows n cl br bn bl bv bf g (.func (.func 68) #[] #[.pointer (some ⟨bc, 0, none⟩), .pointer (some ⟨bd, 0, none⟩)]) (.func (.func 81) #[] #[.pointer (some ⟨bn, 0, none⟩), .pointer (some ⟨br, 0, none⟩), .pointer (some ⟨bl, 0, none⟩), .pointer (some ⟨bv, 0, none⟩), .pointer (some ⟨bf, 0, none⟩)]) (pre ++ suf) (s) w →
    Calls Try.prog 81 #[.int .i64 (i : Int), .int .i64 (row), .int .u64 (mask), .pointer (some ⟨bn, 0, none⟩), .pointer (some ⟨br, 0, none⟩), .pointer (some ⟨bl, 0, none⟩), .pointer (some ⟨bv, 0, none⟩), .pointer (some ⟨bf, 0, none⟩)] w fun e w' => e = .returned (.bool (runV step s (rowV (fun l m => tabV n rest l m (i + suf.length)) pre suf row mask i)).2) ∧ Mem X W0 (some ⟨ab, 0, none⟩) c rows n cl br bn bl bv bf g (.func (.func 68) #[] #[.pointer (some ⟨bc, 0, none⟩), .pointer (some ⟨bd, 0, none⟩)]) (.func (.func 81) #[] #[.pointer (some ⟨bn, 0, none⟩), .pointer (some ⟨br, 0, none⟩), .pointer (some ⟨bl, 0, none⟩), .pointer (some ⟨bv, 0, none⟩), .pointer (some ⟨bf, 0, none⟩)]) (pre ++ suf) ((runV step s (rowV (fun l m => tabV n rest l m (i + suf.length)) pre suf row mask i)).1) w' := by
  intro d
  induction d using Nat.strongRecOn with
  | _ d ih =>
  intro pre suf rest i q row mask s w hd hlen hsp hqR hi hrest hr0 hr4 hb hm
  have hqn : n * q ≤ 16 := by
    have h1 : n * q ≤ 4 * 4 := Nat.mul_le_mul hn4 (by omega)
    omega
  -- one cell: what the two lower calls answer
  have cellIh : ∀ (p1 cs rs : List Int) (c0 u row1 m1 : Int) (q1 j1 : Nat) (s0 : σ), cs.length + n * rs.length < d → (p1 ++ [u]).length + cs.length = n → q1 + rs.length = rows.length → j1 + 1 + cs.length = n * q1 → rs = rows.drop q1 → 0 ≤ row1 → row1 ≤ 4 → (∀ x ∈ p1 ++ u :: cs, 0 ≤ x ∧ x ≤ 4) → ∀ w, Mem X W0 (some ⟨ab, 0, none⟩) c rows n cl br bn bl bv bf g (.func (.func 68) #[] #[.pointer (some ⟨bc, 0, none⟩), .pointer (some ⟨bd, 0, none⟩)]) (.func (.func 81) #[] #[.pointer (some ⟨bn, 0, none⟩), .pointer (some ⟨br, 0, none⟩), .pointer (some ⟨bl, 0, none⟩), .pointer (some ⟨bv, 0, none⟩), .pointer (some ⟨bf, 0, none⟩)]) (p1 ++ u :: cs) (s0) w →
      Calls Try.prog 81 #[.int .i64 ((j1 : Int) + 1), .int .i64 (row1), .int .u64 (m1), .pointer (some ⟨bn, 0, none⟩), .pointer (some ⟨br, 0, none⟩), .pointer (some ⟨bl, 0, none⟩), .pointer (some ⟨bv, 0, none⟩), .pointer (some ⟨bf, 0, none⟩)] w fun e w' => e = .returned (.bool (runV step s0 (rowV (fun l m => tabV n rs l m (j1 + 1 + cs.length)) (p1 ++ [u]) cs row1 m1 (j1 + 1))).2) ∧ Mem X W0 (some ⟨ab, 0, none⟩) c rows n cl br bn bl bv bf g (.func (.func 68) #[] #[.pointer (some ⟨bc, 0, none⟩), .pointer (some ⟨bd, 0, none⟩)]) (.func (.func 81) #[] #[.pointer (some ⟨bn, 0, none⟩), .pointer (some ⟨br, 0, none⟩), .pointer (some ⟨bl, 0, none⟩), .pointer (some ⟨bv, 0, none⟩), .pointer (some ⟨bf, 0, none⟩)]) (p1 ++ u :: cs) ((runV step s0 (rowV (fun l m => tabV n rs l m (j1 + 1 + cs.length)) (p1 ++ [u]) cs row1 m1 (j1 + 1))).1) w' := by
    intro p1 cs rs c0 u row1 m1 q1 j1 s0 h1 h2 h3 h4 h5 h6 h7 h8 w hw
    have e : p1 ++ u :: cs = (p1 ++ [u]) ++ cs := by simp
    rw [e] at hw h8
    have h := ih (cs.length + n * rs.length) h1 (p1 ++ [u]) cs rs (j1 + 1) q1 row1 m1 s0 w (Nat.le_refl _) h2 (Or.inr (by simp)) h3 h4 h5 h6 h7 h8 hw
    rw [show ((j1 + 1 : Nat) : Int) = (j1 : Int) + 1 from by omega] at h
    rw [e]
    exact h
  cases suf with
  | cons c0 cs =>
    have hpre : pre ≠ [] := by rcases hsp with h | h; cases h; exact h
    have hpl : 0 < pre.length := List.length_pos_iff.2 hpre
    rw [List.length_cons] at hd hlen hi
    have hq0 : 0 < q := by
      rcases Nat.eq_zero_or_pos q with h | h
      · subst h; omega
      · exact h
    have himod : Int.tmod (i : Int) (n : Int) = ((pre.length : Nat) : Int) := by
      rw [← Int.ofNat_tmod]
      congr 1
      obtain ⟨q', rfl⟩ : ∃ q', q = q' + 1 := ⟨q - 1, by omega⟩
      rw [Nat.mul_add, Nat.mul_one] at hi
      rw [show i = n * q' + pre.length by omega, Nat.mul_add_mod, Nat.mod_eq_of_lt (by omega)]
    have hc0 := hb c0 (by simp)
    have e1 : i + (cs.length + 1) = i + 1 + cs.length := by omega
    rw [List.length_cons, e1]
    have ih1 := cellIh pre cs rest c0 c0 row mask q i s (by omega) (by simp; omega) hqR (by omega) hrest hr0 hr4 hb
    have ih2 : row ≠ 0 → c0 ≠ 0 → _ := fun hr hc => cellIh pre cs rest c0 (c0 - 1) (row - 1) (orI mask i) q i (runV step s (rowV (fun l m => tabV n rest l m (i + 1 + cs.length)) (pre ++ [c0]) cs row mask (i + 1))).1 (by omega) (by simp; omega) hqR (by omega) hrest (by omega) (by omega) (fun x hx => by
      rcases List.mem_append.1 hx with hx | hx
      · exact hb x (List.mem_append.2 (Or.inl hx))
      · rcases List.mem_cons.1 hx with rfl | hx
        · omega
        · exact hb x (List.mem_append.2 (Or.inr (List.mem_cons_of_mem _ hx))))
    refine (inrow68 X W0 ab c rows n cl br bn bl bv bf g bc bd hX0 hXg hne hg0 hn0 hn4 pre.length i pre cs c0 row mask s _ _ _ _ w rfl (by omega) hpl himod (by omega) hr0 hr4 hc0.1 hc0.2 hm (ih1 w hm) ih2).mono ?_
    intro e w' h
    rw [rowV]
    exact resP_run step (fun s => Mem X W0 (some ⟨ab, 0, none⟩) c rows n cl br bn bl bv bf g (.func (.func 68) #[] #[.pointer (some ⟨bc, 0, none⟩), .pointer (some ⟨bd, 0, none⟩)]) (.func (.func 81) #[] #[.pointer (some ⟨bn, 0, none⟩), .pointer (some ⟨br, 0, none⟩), .pointer (some ⟨bl, 0, none⟩), .pointer (some ⟨bv, 0, none⟩), .pointer (some ⟨bf, 0, none⟩)]) (pre ++ c0 :: cs) (s) w') h
  | nil =>
    rw [List.append_nil] at hm hb
    rw [List.append_nil, List.length_nil, Nat.add_zero, rowV]
    simp only [List.length_nil, Nat.add_zero] at hi hlen hd
    have himod : Int.tmod (i : Int) (n : Int) = 0 := by
      rw [← Int.ofNat_tmod, hi, Nat.mul_mod_right]; rfl
    by_cases hrow : 0 < row
    · rw [if_pos hrow]
      exact early68 X W0 ab c rows n cl br bn bl bv bf g bc bd hn0 hn4 i pre row mask s w himod hrow hm
    · obtain rfl : row = 0 := by omega
      rw [if_neg (by omega)]
      have hN : (rows.length : Int) * (n : Int) = ((rows.length * n : Nat) : Int) := by simp
      have hNb : rows.length * n ≤ 4 * 4 := Nat.mul_le_mul hR hn4
      cases rest with
      | nil =>
        have hqe : q = rows.length := by simpa using hqR
        have hx := done68 X W0 ab c rows n cl br bn bl bv bf g bc bd hn0 hn4 i (rows.length * n) pre mask s _ _ w himod hN (by omega) (by rw [hi, hqe, Nat.mul_comm]) hm (hV s mask pre w hm)
        refine hx.mono ?_
        rintro e w' ⟨he, hm'⟩
        rw [tabV]
        have hmax := max_any pre (List.length_pos_iff.1 (by omega))
        by_cases ha : 0 < Lib.maxOf pre
        · rw [if_pos (hmax.1 ha)]
          rw [if_pos ha] at he hm'
          exact ⟨he, hm'⟩
        · rw [if_neg (fun h => ha (hmax.2 h))]
          rw [if_neg ha] at he hm'
          rw [runV_one]
          exact ⟨he, hm'⟩
      | cons r rs =>
        cases pre with
        | nil => simp at hlen; omega
        | cons c0 cs =>
          rw [List.length_cons] at hqR hd hlen
          have hrq : rows[q]? = some r := by
            have := congrArg List.head? hrest
            rw [List.head?_drop] at this
            exact this.symm
          have hrs : rs = rows.drop (q + 1) := by
            rw [← List.tail_drop, ← hrest]; rfl
          have hrr := hrb r (List.mem_of_getElem? hrq)
          have hc0 := hb c0 (by simp)
          have hdd : cs.length + n * rs.length < d := by
            rw [Nat.mul_add] at hd; omega
          have e1 : i + n = i + 1 + cs.length := by omega
          have hqt : Int.tdiv (i : Int) (n : Int) = (q : Int) := by
            rw [← Int.ofNat_tdiv, hi, Nat.mul_div_cancel_left _ hn0]
          have hiq : i + 1 + cs.length = n * (q + 1) := by rw [Nat.mul_add]; omega
          have hcell : w.cell? ⟨ab, q, none⟩ = some (.int .i64 r) := (hm.bel.cell (p := ⟨ab, q, none⟩) hab).trans (hrc q r hrq)
          have hne2 : i ≠ rows.length * n := by
            intro h
            rw [hi, Nat.mul_comm] at h
            have := Nat.eq_of_mul_eq_mul_right hn0 h
            omega
          have ih1 := cellIh [] cs rs c0 c0 r mask (q + 1) i s hdd (by simp; omega) (by omega) hiq hrs hrr.1 hrr.2 hb
          have ih2 : r ≠ 0 → c0 ≠ 0 → _ := fun hr hc => cellIh [] cs rs c0 (c0 - 1) (r - 1) (orI mask i) (q + 1) i (runV step s (rowV (fun l m => tabV n rs l m (i + 1 + cs.length)) ([] ++ [c0]) cs r mask (i + 1))).1 hdd (by simp; omega) (by omega) hiq hrs (by omega) (by omega) (fun x hx => by
            rcases List.mem_cons.1 hx with rfl | hx
            · omega
            · exact hb x (List.mem_cons_of_mem _ hx))
          refine (begin68 X W0 ab c rows n cl br bn bl bv bf g bc bd hX0 hXg hne hg0 hn0 hn4 0 i q (rows.length * n) [] cs c0 r mask s _ _ _ _ w rfl (by omega) rfl himod hqt (by omega) hrr.1 hrr.2 hc0.1 hc0.2 (by omega) (by omega) hN (by omega) hne2 hcell hm ih1 ih2).mono ?_
          intro e w' h
          rw [tabV, rowV, e1]
          exact resP_run step (fun s => Mem X W0 (some ⟨ab, 0, none⟩) c rows n cl br bn bl bv bf g (.func (.func 68) #[] #[.pointer (some ⟨bc, 0, none⟩), .pointer (some ⟨bd, 0, none⟩)]) (.func (.func 81) #[] #[.pointer (some ⟨bn, 0, none⟩), .pointer (some ⟨br, 0, none⟩), .pointer (some ⟨bl, 0, none⟩), .pointer (some ⟨bv, 0, none⟩), .pointer (some ⟨bf, 0, none⟩)]) (c0 :: cs) (s) w') h
end
end Go.Proofs.Ytcldfmnkeiogdaa
