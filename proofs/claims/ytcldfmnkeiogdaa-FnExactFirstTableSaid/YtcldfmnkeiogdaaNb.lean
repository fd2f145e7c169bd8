/- Plain law: the reference's tables are the tables. No condition beyond the bounds. -/
import Derived.Test.YtcldfmnkeiogdaaNa
import Derived.Test.YtcldfmnkeiogdaaS3
namespace Go.Proofs.Ytcldfmnkeiogdaa
open Go.RowKit S Go.Proofs.YtcldfmnkeiogdaaW.PrintWords
theorem rd_eq (xs : List Int) (i : Nat) (h : i < xs.length) : rd xs (i : Int) = xs[i] := by
  unfold rd
  rw [Int.toNat_natCast, List.getD_eq_getElem?_getD, List.getElem?_eq_getElem h]; rfl
theorem rdL2_eq (xs : List (List (List Int))) (i : Nat) (h : i < xs.length) : rd_L2 xs (i : Int) = xs[i] := by
  unfold rd_L2
  rw [Int.toNat_natCast, List.getD_eq_getElem?_getD, List.getElem?_eq_getElem h]; rfl
theorem tabs_l0 (cols : List Int) (hl : cols.length ≤ 1000) : ∀ (d i k : Nat), i + d = cols.length → d < k → spec_l4Tables.l0 k cols (i : Int) = some (if (cols.drop i).all (· == 0) then [[]] else [])
  | 0, i, k, hi, hk => by
    obtain ⟨k, rfl⟩ : ∃ m, k = m + 1 := ⟨k - 1, by omega⟩
    rw [spec_l4Tables.l0, if_neg (by omega), List.drop_of_length_le (by omega)]
    rfl
  | d + 1, i, k, hi, hk => by
    obtain ⟨k, rfl⟩ : ∃ m, k = m + 1 := ⟨k - 1, by omega⟩
    have hil : i < cols.length := by omega
    rw [spec_l4Tables.l0, if_pos (by omega), if_pos (by omega), rd_eq cols i hil, List.drop_eq_getElem_cons hil, List.all_cons]
    by_cases h : cols[i] = 0
    · rw [if_pos h, step1 i (by omega), tabs_l0 cols hl d (i + 1) k (by omega) (by omega), h]
      rfl
    · rw [if_neg h]
      have : (cols[i] == 0) = false := by rw [beq_eq_false_iff_ne]; exact h
      rw [this, Bool.false_and, if_neg (by simp)]
/-- the columns left behind a row's first j -/
def mixL (cols row : List Int) (j : Nat) : List Int := (subL cols row).take j ++ cols.drop j
def fitsTo (cols row : List Int) (j : Nat) : Bool := fitsB (cols.take j) (row.take j)
theorem sub_get : ∀ (cs bs : List Int) (j : Nat) (h1 : j < cs.length) (h2 : j < bs.length), (subL cs bs)[j]'(by rw [sub_len]; exact h1) = cs[j] - bs[j]
  | [], _, _, h, _ => by cases h
  | _ :: _, [], _, _, h => by cases h
  | c :: cs, b :: bs, 0, _, _ => rfl
  | c :: cs, b :: bs, j + 1, h1, h2 => by
    simp only [subL, List.getElem_cons_succ]
    exact sub_get cs bs j (by simpa using h1) (by simpa using h2)
theorem fits_snoc : ∀ (cs bs : List Int) (c b : Int), cs.length = bs.length → fitsB (cs ++ [c]) (bs ++ [b]) = (fitsB cs bs && decide (0 ≤ c - b))
  | [], [], c, b, _ => by simp [fitsB]
  | [], _ :: _, _, _, h => by cases h
  | _ :: _, [], _, _, h => by cases h
  | x :: cs, y :: bs, c, b, h => by
    simp only [List.cons_append, fitsB, fits_snoc cs bs c b (by simpa using h), Bool.and_assoc]
theorem mix_step (cols row : List Int) (j : Nat) (hc : j < cols.length) (hr : j < row.length) : (mixL cols row j).set j (cols[j] - row[j]) = mixL cols row (j + 1) := by
  unfold mixL
  have hsl : j < (subL cols row).length := by rw [sub_len]; exact hc
  have ht : ((subL cols row).take j).length = j := by rw [List.length_take]; omega
  rw [List.set_append, if_neg (by omega), ht, Nat.sub_self, List.drop_eq_getElem_cons hc, List.set_cons_zero, List.take_succ_eq_append_getElem hsl, sub_get cols row j hc hr, List.append_assoc]
  rfl
theorem mix_get (cols row : List Int) (j : Nat) (hc : j < cols.length) : rd (mixL cols row j) (j : Int) = cols[j] := by
  have ht : ((subL cols row).take j).length = j := by rw [List.length_take, sub_len]; omega
  have e : (mixL cols row j)[j]? = some cols[j] := by
    unfold mixL
    rw [List.getElem?_append_right (by omega), ht, Nat.sub_self, List.getElem?_drop, Nat.add_zero, List.getElem?_eq_getElem hc]
  unfold rd
  rw [Int.toNat_natCast, List.getD_eq_getElem?_getD, e]
  rfl
theorem mix_len (cols row : List Int) (j : Nat) (h : j ≤ cols.length) : (mixL cols row j).length = cols.length := by
  unfold mixL; simp [sub_len]; omega
theorem fits_step (cols row : List Int) (j : Nat) (hc : j < cols.length) (hr : j < row.length) : fitsTo cols row (j + 1) = (fitsTo cols row j && decide (0 ≤ cols[j] - row[j])) := by
  unfold fitsTo
  rw [List.take_succ_eq_append_getElem hc, List.take_succ_eq_append_getElem hr]
  exact fits_snoc _ _ _ _ (by rw [List.length_take, List.length_take]; omega)
theorem mix_all (cols row : List Int) : mixL cols row cols.length = subL cols row := by
  unfold mixL
  rw [List.drop_of_length_le (Nat.le_refl _), List.append_nil, List.take_of_length_le (by rw [sub_len]; exact Nat.le_refl _)]
theorem fits_all (cols row : List Int) (h : row.length = cols.length) : fitsTo cols row cols.length = fitsB cols row := by
  unfold fitsTo
  rw [List.take_of_length_le (Nat.le_refl _), List.take_of_length_le (by omega)]
section
variable (rows cols : List Int) (out : List (List (List Int))) (all : List (List Int)) (i : Nat) (hi : i < all.length) (hlen : all[i].length = cols.length) (hc4 : cols.length ≤ 4) 
  (hcb : ∀ c ∈ cols, 0 ≤ c ∧ c ≤ 1000) (hrb : ∀ b ∈ all[i], b = 0 ∨ b = 1)
include hi hlen hc4 hcb hrb
theorem tabs_l2 : ∀ (d j k : Nat), j + d = cols.length →
    spec_l4Tables.l2 (d + 1 + k) rows cols out all (i : Int) (mixL cols all[i] j) (fitsTo cols all[i] j) (j : Int) =
      (if fitsB cols all[i] = true then (if 1 ≤ (rows.length : Int) then ((spec_l4Tables.f k (rows.drop 1) (subL cols all[i])).bind fun t => spec_l4Tables.l3 k rows cols out all (i : Int) t 0) else none) else spec_l4Tables.l1 k rows cols out all (wrap64 ((i : Int) + 1)))
  | 0, j, k, hj => by
    have hj2 : j = cols.length := by omega
    have hml := mix_len cols all[i] j (by omega)
    rw [show 0 + 1 + k = k + 1 by omega, spec_l4Tables.l2, if_neg (by rw [hml]; omega), hj2, mix_all, fits_all cols all[i] hlen]
  | d + 1, j, k, hj => by
    have hjc : j < cols.length := by omega
    have hjr : j < all[i].length := by omega
    have hml := mix_len cols all[i] j (by omega)
    have c1 := hcb _ (List.getElem_mem hjc)
    have c2 := hrb _ (List.getElem_mem hjr)
    have e : wrap64 (cols[j] - all[i][j]) = cols[j] - all[i][j] := by unfold wrap64; omega
    rw [show d + 1 + 1 + k = (d + 1 + k) + 1 by omega, spec_l4Tables.l2, if_pos (by rw [hml]; omega), if_pos (by omega), if_pos (by omega), if_pos (by omega), rdL1_eq all i hi, if_pos (by omega), mix_get cols all[i] j hjc, rd_eq all[i] j hjr, e, Int.toNat_natCast, mix_step cols all[i] j hjc hjr]
    simp only [Option.bind_some]
    rw [step1 j (by omega), ← tabs_l2 d (j + 1) k (by omega), fits_step cols all[i] j hjc hjr]
    cases fitsTo cols all[i] j with
    | true => rw [if_pos rfl, Bool.true_and]
    | false => rw [if_neg (by simp), Bool.false_and]
end
theorem tabs_l3 (rows cols : List Int) (all : List (List Int)) (i : Nat) (hi : i < all.length) (rest : List (List (List Int))) (hr : rest.length ≤ 100000) (hq : ∀ t ∈ rest, t.length ≤ 1000) : ∀ (d j k : Nat) (out : List (List (List Int))), j + d = rest.length → out.length + d ≤ 100000000 →
    spec_l4Tables.l3 (d + 1 + k) rows cols out all (i : Int) rest (j : Int) = spec_l4Tables.l1 k rows cols (out ++ (rest.drop j).map (all[i] :: ·)) all (wrap64 ((i : Int) + 1))
  | 0, j, k, out, hj, ho => by
    rw [show 0 + 1 + k = k + 1 by omega, spec_l4Tables.l3, if_neg (by omega), List.drop_of_length_le (by omega)]
    simp
  | d + 1, j, k, out, hj, ho => by
    have hjl : j < rest.length := by omega
    have hl := hq _ (List.getElem_mem hjl)
    rw [show d + 1 + 1 + k = (d + 1 + k) + 1 by omega, spec_l4Tables.l3, if_pos (by omega), if_pos (by omega), if_pos (by omega)]
    simp only [Option.bind_some]
    rw [if_pos (by omega), rdL2_eq rest j hjl, if_pos (by simp; omega), if_pos (by omega), step1 j (by omega), tabs_l3 rows cols all i hi rest hr hq d (j + 1) k _ (by omega) (by simp; omega)]
    have e := List.drop_eq_getElem_cons hjl
    rw [e, List.map_cons, List.append_assoc, rdL1_eq all i hi]
    rfl
def tabsOf (rs cols : List Int) (row : List Int) : List (List (List Int)) := if fitsB cols row = true then (tabs rs (subL cols row)).map (row :: ·) else []
/-- fuel enough for r rows more -/
def fuelT : Nat → Nat
  | 0 => 10
  | n + 1 => fuelT n + 16 * (16 ^ n + 20) + 1000
theorem spec_l1own (cols : List Int) (h : cols.length ≤ 1000) : spec_l1Own.f cols = some cols := by
  unfold spec_l1Own.f
  simp only [Option.bind_some]
  rw [if_pos (by simp; omega), List.nil_append]
theorem tabs_l1 (r : Int) (rs cols : List Int) (all : List (List Int)) (hc4 : cols.length ≤ 4) (hcb : ∀ c ∈ cols, 0 ≤ c ∧ c ≤ 1000) (hal : all.length ≤ 16) (hrs : rs.length ≤ 3) (hrow : ∀ q ∈ all, q.length = cols.length ∧ ∀ b ∈ q, b = 0 ∨ b = 1)
    (ih : ∀ cols' : List Int, cols'.length ≤ 4 → (∀ c ∈ cols', 0 ≤ c ∧ c ≤ 1000) → ∀ k, fuelT rs.length ≤ k → spec_l4Tables.f k rs cols' = some (tabs rs cols')) :
    ∀ (d i k : Nat) (out : List (List (List Int))), i + d = all.length → out.length + d * 4096 ≤ 100000000 → fuelT rs.length + d * (16 ^ rs.length + 20) + 10 ≤ k →
      spec_l4Tables.l1 k (r :: rs) cols out all (i : Int) = some (out ++ (all.drop i).flatMap (tabsOf rs cols))
  | 0, i, k, out, hi, ho, hk => by
    obtain ⟨k, rfl⟩ : ∃ m, k = m + 1 := ⟨k - 1, by omega⟩
    rw [spec_l4Tables.l1, if_neg (by omega), List.drop_of_length_le (by omega)]
    simp
  | d + 1, i, k, out, hi, ho, hk => by
    have hil : i < all.length := by omega
    have ho' : out.length + d * 4096 ≤ 100000000 := Nat.le_trans (Nat.add_le_add_left (Nat.mul_le_mul_right _ (Nat.le_succ d)) _) ho
    have hq := hrow _ (List.getElem_mem hil)
    rw [Nat.add_mul, Nat.one_mul] at hk
    have hp : 16 ^ rs.length ≤ 16 ^ 3 := Nat.pow_le_pow_right (by decide) hrs
    obtain ⟨P, hP⟩ : ∃ P : Nat, 16 ^ rs.length = P := ⟨_, rfl⟩
    rw [hP] at hk hp
    obtain ⟨k, rfl⟩ : ∃ m, k = (cols.length + 1 + m) + 1 := ⟨k - cols.length - 2, by omega⟩
    have hl2 := tabs_l2 (r :: rs) cols out all i hil hq.1 hc4 hcb hq.2 cols.length 0 k (by omega)
    have hm0 : mixL cols all[i] 0 = cols := by unfold mixL; simp
    have hf0 : fitsTo cols all[i] 0 = true := by unfold fitsTo; rfl
    rw [hm0, hf0, show ((0 : Nat) : Int) = 0 from rfl] at hl2
    have e := List.drop_eq_getElem_cons hil
    rw [spec_l4Tables.l1, if_pos (by omega), spec_l1own cols (by omega)]
    simp only [Option.bind_some]
    rw [hl2, e, List.flatMap_cons]
    by_cases hf : fitsB cols all[i] = true
    · have hsl : (subL cols all[i]).length ≤ 4 := by rw [sub_len]; exact hc4
      have hsb : ∀ c ∈ subL cols all[i], 0 ≤ c ∧ c ≤ 1000 := fun c hc => ⟨sub_nn _ _ (fun c h => (hcb c h).1) hf c hc, sub_le _ _ 1000 (fun c h => (hcb c h).2) hq.2 c hc⟩
      have htl := tabs_len rs (subL cols all[i]) hsl
      rw [hP] at htl
      have ht1 : ∀ t ∈ tabs rs (subL cols all[i]), t.length ≤ 1000 := fun t ht => by rw [tab_len rs _ t ht]; omega
      rw [if_pos hf, if_pos (by simp; omega), List.drop_succ_cons, List.drop_zero, ih _ hsl hsb k (by omega)]
      simp only [Option.bind_some]
      obtain ⟨k2, rfl⟩ : ∃ m, k = (tabs rs (subL cols all[i])).length + 1 + m := ⟨k - (tabs rs (subL cols all[i])).length - 1, by omega⟩
      have hl3 := tabs_l3 (r :: rs) cols all i hil (tabs rs (subL cols all[i])) (by omega) ht1 (tabs rs (subL cols all[i])).length 0 k2 out (by omega) (by omega)
      rw [show ((0 : Nat) : Int) = 0 from rfl] at hl3
      rw [List.drop_zero] at hl3
      have hol : (out ++ (tabs rs (subL cols all[i])).map (all[i] :: ·)).length + d * 4096 ≤ 100000000 := by
        rw [List.length_append, List.length_map]; omega
      have hih := tabs_l1 r rs cols all hc4 hcb hal hrs hrow ih d (i + 1) k2 _ (by omega) hol (by rw [hP]; omega)
      rw [hl3, step1 i (by omega), hih]
      have et : tabsOf rs cols all[i] = (tabs rs (subL cols all[i])).map (all[i] :: ·) := by unfold tabsOf; rw [if_pos hf]
      rw [et, List.append_assoc]
    · have et : tabsOf rs cols all[i] = [] := by unfold tabsOf; rw [if_neg hf]
      have hih := tabs_l1 r rs cols all hc4 hcb hal hrs hrow ih d (i + 1) k out (by clear hf et; omega) ho' (by clear hf et; rw [hP]; omega)
      rw [if_neg hf, step1 i (by clear hf et; omega), hih, et, List.nil_append]
theorem spec_tabs : ∀ (rows cols : List Int), rows.length ≤ 4 → cols.length ≤ 4 → (∀ r ∈ rows, 0 ≤ r ∧ r ≤ 100) → (∀ c ∈ cols, 0 ≤ c ∧ c ≤ 1000) → ∀ k, fuelT rows.length ≤ k → spec_l4Tables.f k rows cols = some (tabs rows cols)
  | [], cols, _, hc, _, _, k, hk => by
    have : fuelT ([] : List Int).length = 10 := rfl
    obtain ⟨k, rfl⟩ : ∃ m, k = m + 1 := ⟨k - 1, by omega⟩
    have h := tabs_l0 cols (by omega) cols.length 0 k (by omega) (by omega)
    rw [spec_l4Tables.f, if_pos (by simp)]
    rw [show ((0 : Nat) : Int) = 0 from rfl, List.drop_zero] at h
    rw [h, tabs]
  | r :: rs, cols, hr, hc, hrb, hcb, k, hk => by
    rw [List.length_cons] at hr
    have hfu : fuelT (r :: rs).length = fuelT rs.length + 16 * (16 ^ rs.length + 20) + 1000 := rfl
    rw [hfu] at hk
    obtain ⟨k, rfl⟩ : ∃ m, k = m + 1 := ⟨k - 1, by omega⟩
    have h0 := hrb r List.mem_cons_self
    have hb := rows_bound cols.length hc r
    rw [spec_l4Tables.f, if_neg (by simp; omega), if_pos (by simp), show rd (r :: rs) 0 = r from rfl, spec_rows cols.length r k hc h0.1 h0.2 (by omega)]
    simp only [Option.bind_some]
    have h := tabs_l1 r rs cols (rowsOf cols.length r) hc hcb hb.1 (by omega) (fun q hq => row_len _ _ q hq) (fun cols' h1 h2 k hk => spec_tabs rs cols' (by omega) h1 (fun x hx => hrb x (List.mem_cons_of_mem _ hx)) h2 k hk) (rowsOf cols.length r).length 0 k [] (by omega) (by simp; omega) (by
      have : (rowsOf cols.length r).length * (16 ^ rs.length + 20) ≤ 16 * (16 ^ rs.length + 20) := Nat.mul_le_mul_right _ hb.1
      omega)
    rw [show ((0 : Nat) : Int) = 0 from rfl, List.drop_zero, List.nil_append] at h
    rw [h, tabs]
    rfl
end Go.Proofs.Ytcldfmnkeiogdaa
