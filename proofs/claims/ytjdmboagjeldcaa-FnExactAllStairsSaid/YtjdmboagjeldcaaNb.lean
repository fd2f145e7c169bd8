/- Plain law: equal lists, marks and what is held of them. No condition beyond the bounds. -/
import Derived.Test.YtjdmboagjeldcaaWb
namespace Go.Proofs.Ytjdmboagjeldcaa
open Go.RowKit S Go.Proofs.YtjdmboagjeldcaaW.PrintWords
theorem rdL1_eq (xs : List (List Int)) (i : Nat) (h : i < xs.length) : rd_L1 xs (i : Int) = xs[i] := by
  unfold rd_L1
  rw [Int.toNat_natCast, List.getD_eq_getElem?_getD, List.getElem?_eq_getElem h]; rfl
theorem eqi_l0 (L : List Int) (hl : L.length < 90000000) : ∀ (d i k : Nat), i + d = L.length → d < k → laws_eqIntS.l0 k L L (i : Int) = some true
  | 0, i, k, hi, hk => by
    obtain ⟨k, rfl⟩ : ∃ m, k = m + 1 := ⟨k - 1, by omega⟩
    rw [laws_eqIntS.l0, if_neg (by omega)]
  | d + 1, i, k, hi, hk => by
    obtain ⟨k, rfl⟩ : ∃ m, k = m + 1 := ⟨k - 1, by omega⟩
    rw [laws_eqIntS.l0, if_pos (by omega), if_pos (by omega), if_pos (by omega), if_pos rfl, step1 i (by omega)]
    exact eqi_l0 L hl d (i + 1) k (by omega) (by omega)
theorem eqi_same (L : List Int) (hl : L.length < 90000000) (k : Nat) (hk : L.length < k) : laws_eqIntS.f k L L = some true := by
  unfold laws_eqIntS.f
  rw [if_pos rfl]
  exact eqi_l0 L hl L.length 0 k (by omega) hk
theorem eqii_l0 (L : List (List Int)) (hl : L.length ≤ 1000) (hr : ∀ r ∈ L, r.length ≤ 1000) : ∀ (d i k : Nat), i + d = L.length → d + 2000 < k → laws_eqIntSS.l0 k L L (i : Int) = some true
  | 0, i, k, hi, hk => by
    obtain ⟨k, rfl⟩ : ∃ m, k = m + 1 := ⟨k - 1, by omega⟩
    rw [laws_eqIntSS.l0, if_neg (by omega)]
  | d + 1, i, k, hi, hk => by
    obtain ⟨k, rfl⟩ : ∃ m, k = m + 1 := ⟨k - 1, by omega⟩
    have hil : i < L.length := by omega
    have hrl := hr _ (List.getElem_mem hil)
    rw [laws_eqIntSS.l0, if_pos (by omega), if_pos (by omega), if_pos (by omega), rdL1_eq L i hil, eqi_same _ (by omega) k (by omega)]
    simp only [Option.bind_some]
    rw [if_pos trivial, step1 i (by omega)]
    exact eqii_l0 L hl hr d (i + 1) k (by omega) (by omega)
theorem eqii_same (L : List (List Int)) (hl : L.length ≤ 1000) (hr : ∀ r ∈ L, r.length ≤ 1000) (k : Nat) (hk : 4000 < k) : laws_eqIntSS.f k L L = some true := by
  unfold laws_eqIntSS.f
  rw [if_pos rfl]
  exact eqii_l0 L hl hr L.length 0 k (by omega) (by omega)
def cntL (a n : Nat) : List Int := (List.range n).map fun j => ((a + j : Nat) : Int)
theorem cnt_len (a n : Nat) : (cntL a n).length = n := by simp [cntL]
theorem cnt_get (a n j : Nat) (h : j < n) : (cntL a n)[j]? = some ((a + j : Nat) : Int) := by simp [cntL, h]
theorem mark_l0 (a n : Nat) (ha : a + n ≤ 100000000) (l : List Int) (hl : l.length = n) : ∀ (d j k : Nat), j + d = n → d < k → laws_markIntS.l0 k ((cntL a n).take j ++ l.drop j) ((a + j : Nat) : Int) (j : Int) = some (((a + n : Nat) : Int), cntL a n)
  | 0, j, k, hj, hk => by
    obtain ⟨k, rfl⟩ : ∃ m, k = m + 1 := ⟨k - 1, by omega⟩
    have h1 : ((cntL a n).take j ++ l.drop j) = cntL a n := by
      rw [List.drop_of_length_le (by omega), List.append_nil, List.take_of_length_le (by rw [cnt_len]; omega)]
    rw [h1, laws_markIntS.l0, if_neg (by rw [cnt_len]; omega), show a + j = a + n by omega]
  | d + 1, j, k, hj, hk => by
    obtain ⟨k, rfl⟩ : ∃ m, k = m + 1 := ⟨k - 1, by omega⟩
    have hjl : j < l.length := by omega
    have hlen : ((cntL a n).take j ++ l.drop j).length = n := by rw [List.length_append, List.length_take, List.length_drop, cnt_len]; omega
    rw [laws_markIntS.l0, if_pos (by rw [hlen]; omega), if_pos (by omega), Int.toNat_natCast, step1 j (by omega), step1 (a + j) (by omega)]
    have e : ((cntL a n).take j ++ l.drop j).set j ((a + j : Nat) : Int) = (cntL a n).take (j + 1) ++ l.drop (j + 1) := by
      have ht : ((cntL a n).take j).length = j := by rw [List.length_take, cnt_len]; omega
      have hc : j < (cntL a n).length := by rw [cnt_len]; omega
      have hg := cnt_get a n j (by omega)
      rw [List.getElem?_eq_getElem hc] at hg
      rw [List.set_append, if_neg (by omega), ht, Nat.sub_self, List.drop_eq_getElem_cons hjl, List.set_cons_zero, List.take_succ_eq_append_getElem hc, List.append_assoc, Option.some.inj hg]
      rfl
    rw [e]
    exact mark_l0 a n ha l hl d (j + 1) k (by omega) (by omega)
theorem mark_eq (l : List Int) (a k : Nat) (ha : a + l.length ≤ 100000000) (hk : l.length < k) : laws_markIntS.f k l (a : Int) = some (((a + l.length : Nat) : Int), cntL a l.length) := by
  have := mark_l0 a l.length ha l rfl l.length 0 k (by omega) hk
  rw [List.take_zero, List.nil_append, List.drop_zero, Nat.add_zero] at this
  exact this
theorem held_l0 (a n : Nat) (ha : a + n ≤ 100000000) : ∀ (d j k : Nat), j + d = n → d < k → laws_heldIntS.l0 k (cntL a n) ((a + j : Nat) : Int) (j : Int) = some ((a + n : Nat) : Int)
  | 0, j, k, hj, hk => by
    obtain ⟨k, rfl⟩ : ∃ m, k = m + 1 := ⟨k - 1, by omega⟩
    rw [laws_heldIntS.l0, if_neg (by rw [cnt_len]; omega), show a + j = a + n by omega]
  | d + 1, j, k, hj, hk => by
    obtain ⟨k, rfl⟩ : ∃ m, k = m + 1 := ⟨k - 1, by omega⟩
    have hc : j < (cntL a n).length := by rw [cnt_len]; omega
    have hg := cnt_get a n j (by omega)
    rw [List.getElem?_eq_getElem hc] at hg
    rw [laws_heldIntS.l0, if_pos (by rw [cnt_len]; omega), if_pos (by omega), rd_eq _ j hc, Option.some.inj hg, if_pos rfl, step1 j (by omega), step1 (a + j) (by omega)]
    exact held_l0 a n ha d (j + 1) k (by omega) (by omega)
theorem held_eq (a n k : Nat) (ha : a + n ≤ 100000000) (hk : n < k) : laws_heldIntS.f k (cntL a n) (a : Int) = some ((a + n : Nat) : Int) := held_l0 a n ha n 0 k (by omega) hk
def marksL : Nat → List (List Int) → List (List Int)
  | _, [] => []
  | a, r :: rs => cntL a r.length :: marksL (a + r.length) rs
def totL (L : List (List Int)) : Nat := (L.map List.length).sum
theorem marks_len : ∀ (L : List (List Int)) (a : Nat), (marksL a L).length = L.length
  | [], _ => rfl
  | r :: rs, a => by simp [marksL, marks_len rs]
theorem tot_snoc (L : List (List Int)) (i : Nat) (h : i < L.length) : totL (L.take (i + 1)) = totL (L.take i) + (L[i]).length := by
  unfold totL
  rw [List.take_succ_eq_append_getElem h, List.map_append, List.sum_append]; simp
theorem marks_get : ∀ (L : List (List Int)) (a i : Nat) (h : i < L.length), (marksL a L)[i]? = some (cntL (a + totL (L.take i)) (L[i]).length)
  | [], _, _, h => by cases h
  | r :: rs, a, 0, _ => by simp [marksL, totL]
  | r :: rs, a, i + 1, h => by
    rw [marksL, List.getElem?_cons_succ, marks_get rs (a + r.length) i (by simpa using h)]
    simp only [List.take_succ_cons, List.getElem_cons_succ, totL, List.map_cons, List.sum_cons]
    congr 2; omega
theorem tot_le (L : List (List Int)) (i : Nat) : totL (L.take i) ≤ totL L := by
  unfold totL
  conv => rhs; rw [← List.take_append_drop i L]
  rw [List.map_append, List.sum_append]; omega
theorem heldss_l0 (L : List (List Int)) (a : Nat) (ha : a + totL L ≤ 1000000) (hl : L.length ≤ 1000) (hr : ∀ r ∈ L, r.length ≤ 1000) : ∀ (d i k : Nat), i + d = L.length → d + 2000 < k → laws_heldIntSS.l0 k (marksL a L) ((a + totL (L.take i) : Nat) : Int) (i : Int) = some ((a + totL L : Nat) : Int)
  | 0, i, k, hi, hk => by
    obtain ⟨k, rfl⟩ : ∃ m, k = m + 1 := ⟨k - 1, by omega⟩
    rw [laws_heldIntSS.l0, if_neg (by rw [marks_len]; omega), List.take_of_length_le (by omega)]
  | d + 1, i, k, hi, hk => by
    obtain ⟨k, rfl⟩ : ∃ m, k = m + 1 := ⟨k - 1, by omega⟩
    have hil : i < L.length := by omega
    have hm : i < (marksL a L).length := by rw [marks_len]; exact hil
    have hg := marks_get L a i hil
    have ht := tot_snoc L i hil
    have htl := tot_le L (i + 1)
    have hrl := hr _ (List.getElem_mem hil)
    rw [List.getElem?_eq_getElem hm] at hg
    rw [laws_heldIntSS.l0, if_pos (by rw [marks_len]; omega), if_pos (by omega), rdL1_eq _ i hm, Option.some.inj hg, held_eq _ _ k (by omega) (by omega)]
    simp only [Option.bind_some]
    rw [if_neg (by omega), step1 i (by omega), Nat.add_assoc, ← ht]
    exact heldss_l0 L a ha hl hr d (i + 1) k (by omega) (by omega)
theorem heldss_eq (L : List (List Int)) (a : Nat) (ha : a + totL L ≤ 1000000) (hl : L.length ≤ 1000) (hr : ∀ r ∈ L, r.length ≤ 1000) (k : Nat) (hk : 4000 < k) : laws_heldIntSS.f k (marksL a L) (a : Int) = some ((a + totL L : Nat) : Int) := by
  have := heldss_l0 L a ha hl hr L.length 0 k (by omega) (by omega)
  rw [List.take_zero, show totL [] = 0 from rfl, Nat.add_zero] at this
  exact this
end Go.Proofs.Ytjdmboagjeldcaa
