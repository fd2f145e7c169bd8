/- Plain law: the parts of a text between bytes: the reference's loop and Go's Split agree; the seal held against its text. No condition beyond the bounds. -/
import Derived.Test.YtnbcmjoimenhjaaDoorS4
import Derived.Test.YtnbcmjoimenhjaaDoorNc
import Derived.Lib.Split
import Derived.Lib.IndexBytes
import Derived.Lib.SplitLaws
namespace Go.Proofs.YtnbcmjoimenhjaaDoor
open Go.RowKit S Go.Proofs.YtnbcmjoimenhjaaDoorW.PrintWords
def pcs (c : UInt8) : List UInt8 → List UInt8 → List (List UInt8)
  | cur, [] => [cur]
  | cur, b :: r => if b = c then cur :: pcs c [] r else pcs c (cur ++ [b]) r
theorem pcs_none (c : UInt8) : ∀ (l cur : List UInt8), c ∉ l → pcs c cur l = [cur ++ l]
  | [], cur, _ => by simp [pcs]
  | b :: r, cur, h => by
    rw [pcs, if_neg (fun e => h (by simp [e])), pcs_none c r _ (fun hr => h (by simp [hr]))]
    simp
theorem pcs_hit (c : UInt8) : ∀ (a b cur : List UInt8), c ∉ a → pcs c cur (a ++ c :: b) = (cur ++ a) :: pcs c [] b
  | [], b, cur, _ => by simp [pcs]
  | x :: a, b, cur, h => by
    rw [List.cons_append, pcs, if_neg (fun e => h (by simp [e])), pcs_hit c a b _ (fun hr => h (by simp [hr]))]
    simp
theorem splitK_pcs (c : UInt8) : ∀ (n : Nat) (l : List UInt8), l.length ≤ n → Lib.splitK [c] 0 (l.count c) l = pcs c [] l
  | n, l, hn => by
    by_cases hm : Lib.indexByte l c = -1
    · have hno : c ∉ l := by
        intro hc
        obtain ⟨k, hk, e⟩ := List.getElem_of_mem hc
        exact Lib.indexByte_none hm k (by rw [List.getElem?_eq_getElem hk, e])
      rw [List.count_eq_zero.2 hno, pcs_none c l [] hno]
      rfl
    · obtain ⟨o, ho⟩ : ∃ o : Nat, Lib.indexByte l c = o := ⟨(Lib.indexByte l c).toNat, by have := Lib.indexByte_ge l c; omega⟩
      obtain ⟨h1, h2⟩ := Lib.indexByte_some ho
      obtain ⟨hol, h1'⟩ := List.getElem?_eq_some_iff.1 h1
      have hl : l = l.take o ++ c :: l.drop (o + 1) := by
        conv => lhs; rw [← List.take_append_drop o l]
        rw [List.drop_eq_getElem_cons hol, h1']
      have hna : c ∉ l.take o := by
        intro hc
        obtain ⟨k, hk, e⟩ := List.getElem_of_mem hc
        rw [List.length_take] at hk
        rw [List.getElem_take] at e
        exact h2 k (by omega) (by rw [List.getElem?_eq_getElem (by omega), e])
      cases n with
      | zero => exact absurd hol (by omega)
      | succ n =>
        have hcount : l.count c = (l.drop (o + 1)).count c + 1 := by
          conv => lhs; rw [hl]
          rw [List.count_append, List.count_eq_zero.2 hna, List.count_cons_self]; omega
        have ih := splitK_pcs c n (l.drop (o + 1)) (by rw [List.length_drop]; omega)
        have hp : pcs c [] l = l.take o :: pcs c [] (l.drop (o + 1)) := by
          conv => lhs; rw [hl]
          rw [pcs_hit c _ _ _ hna]; rfl
        rw [hcount, Lib.splitK, Lib.index_one, if_neg (by simpa using hm), hp, ho]
        simp only [Int.toNat_natCast, Nat.add_zero, List.length_singleton]
        rw [ih]
def ofL (l : List UInt8) : ByteArray := ⟨l.toArray⟩
theorem ofL_data (s : ByteArray) : ofL s.data.toList = s := rfl
theorem ofL_list (l : List UInt8) : (ofL l).data.toList = l := rfl
theorem pcs_len (c : UInt8) : ∀ (l cur : List UInt8), (pcs c cur l).length ≤ l.length + 1
  | [], cur => by simp [pcs]
  | b :: r, cur => by
    rw [pcs]
    split
    · have := pcs_len c r []; simp; omega
    · have := pcs_len c r (cur ++ [b]); simp; omega
theorem pcs_ne (c : UInt8) : ∀ (l cur : List UInt8), pcs c cur l ≠ []
  | [], cur => by simp [pcs]
  | b :: r, cur => by
    rw [pcs]
    split
    · simp
    · exact pcs_ne c r _
theorem split_l0 (s : ByteArray) (c : UInt8) (hs : s.size ≤ 10000000) : ∀ (d i fr k : Nat) (out : List ByteArray), i + d = s.size → fr ≤ i → out.length ≤ i → d < k →
    spec_l1Split.l0 k s (c.toNat : Int) out (fr : Int) (i : Int) = some (out ++ (pcs c ((s.data.toList.take i).drop fr) (s.data.toList.drop i)).map ofL)
  | 0, i, fr, k, out, hi, hf, ho, hk => by
    obtain ⟨k, rfl⟩ : ∃ m, k = m + 1 := ⟨k - 1, by omega⟩
    rw [spec_l1Split.l0, if_neg (by omega), if_pos (by omega), if_pos (by omega), if_pos (by omega)]
    have hl : s.data.toList.length = i := by rw [← size_len]; omega
    rw [List.drop_of_length_le (l := s.data.toList) (i := i) (by omega), List.take_of_length_le (by omega), pcs]
    have e : s.extract (fr : Int).toNat s.size = ofL (s.data.toList.drop fr) := by
      apply ByteArray.ext
      apply Array.ext'
      rw [Lib.extract_data, Int.toNat_natCast, List.take_of_length_le (by rw [List.length_drop]; omega)]
      rfl
    rw [e]
    rfl
  | d + 1, i, fr, k, out, hi, hf, ho, hk => by
    obtain ⟨k, rfl⟩ : ∃ m, k = m + 1 := ⟨k - 1, by omega⟩
    have hil : i < s.data.toList.length := by rw [← size_len]; omega
    rw [spec_l1Split.l0, if_pos (by omega), if_pos (by omega), bt_list s i hil, List.drop_eq_getElem_cons hil, pcs, step_big i (by omega)]
    by_cases he : s.data.toList[i] = c
    · rw [if_pos (by rw [he]), if_pos he, if_pos (by omega), if_pos (by omega), if_pos (by omega), if_pos (by omega)]
      have ih := split_l0 s c hs d (i + 1) (i + 1) k (out ++ [s.extract (fr : Int).toNat (i : Int).toNat]) (by omega) (by omega) (by simp; omega) (by omega)
      rw [ih]
      have e : s.extract (fr : Int).toNat (i : Int).toNat = ofL ((s.data.toList.take i).drop fr) := by
        apply ByteArray.ext
        apply Array.ext'
        rw [Lib.extract_data, Int.toNat_natCast, Int.toNat_natCast, ← List.drop_take]
        rfl
      have e2 : ((s.data.toList.take (i + 1)).drop (i + 1)) = [] := List.drop_of_length_le (by rw [List.length_take]; omega)
      rw [e, e2]
      simp
    · rw [if_neg (by intro h; exact he (UInt8.toNat_inj.1 (by omega))), if_neg he]
      have ih := split_l0 s c hs d (i + 1) fr k out (by omega) (by omega) (by omega) (by omega)
      rw [ih]
      have e : (s.data.toList.take (i + 1)).drop fr = (s.data.toList.take i).drop fr ++ [s.data.toList[i]] := by
        rw [List.take_succ_eq_append_getElem hil, List.drop_append_of_le_length (by rw [List.length_take]; omega)]
      rw [e]
def partsOf (s : ByteArray) (c : UInt8) : List ByteArray := (pcs c [] s.data.toList).map ofL
theorem spec_split (s : ByteArray) (c : UInt8) (hs : s.size ≤ 10000000) (k : Nat) (hk : s.size < k) : spec_l1Split.f k s (c.toNat : Int) = some (partsOf s c) := by
  have := split_l0 s c hs s.size 0 0 k [] (by omega) (by omega) (by simp) hk
  simpa [spec_l1Split.f, partsOf] using this
theorem lib_split (s : ByteArray) (c : UInt8) : Lib.splitB ⟨#[c]⟩ 0 (Lib.countB s ⟨#[c]⟩) s = partsOf s c := by
  have h := Lib.splitB_data ⟨#[c]⟩ 0 (Lib.countB s ⟨#[c]⟩) s
  have hc : Lib.countB s ⟨#[c]⟩ = s.data.toList.count c := Lib.count_one c s.data.toList
  have hk := splitK_pcs c s.data.toList.length s.data.toList (Nat.le_refl _)
  rw [hc] at h ⊢
  have h2 : (Lib.splitB ⟨#[c]⟩ 0 (s.data.toList.count c) s).map (·.data.toList) = pcs c [] s.data.toList := h.trans hk
  unfold partsOf
  rw [← h2, List.map_map]
  conv => lhs; rw [← List.map_id (Lib.splitB ⟨#[c]⟩ 0 (s.data.toList.count c) s)]
  exact List.map_congr_left fun x _ => rfl
/-- the text ahead of the first mark -/
def cutOf (l : List UInt8) (c : UInt8) : List UInt8 := (pcs c [] l).headD []
theorem cut_head (l : List UInt8) (c : UInt8) : (Lib.cut l [c]).1 = cutOf l c := by
  unfold Lib.cut cutOf
  rw [Lib.index_one]
  by_cases hm : Lib.indexByte l c = -1
  · have hno : c ∉ l := by
      intro hc
      obtain ⟨k, hk, e⟩ := List.getElem_of_mem hc
      exact Lib.indexByte_none hm k (by rw [List.getElem?_eq_getElem hk, e])
    rw [if_neg (by omega), pcs_none c l [] hno]
    rfl
  · obtain ⟨o, ho⟩ : ∃ o : Nat, Lib.indexByte l c = o := ⟨(Lib.indexByte l c).toNat, by have := Lib.indexByte_ge l c; omega⟩
    obtain ⟨h1, h2⟩ := Lib.indexByte_some ho
    obtain ⟨hol, h1'⟩ := List.getElem?_eq_some_iff.1 h1
    have hl : l = l.take o ++ c :: l.drop (o + 1) := by
      conv => lhs; rw [← List.take_append_drop o l]
      rw [List.drop_eq_getElem_cons hol, h1']
    have hna : c ∉ l.take o := by
      intro hc
      obtain ⟨k, hk, e⟩ := List.getElem_of_mem hc
      rw [List.length_take] at hk
      rw [List.getElem_take] at e
      exact h2 k (by omega) (by rw [List.getElem?_eq_getElem (by omega), e])
    have hp : pcs c [] l = l.take o :: pcs c [] (l.drop (o + 1)) := by
      conv => lhs; rw [hl]
      rw [pcs_hit c _ _ _ hna]; rfl
    rw [if_pos (by omega), hp, ho]
    simp
theorem first_split (l : List UInt8) (c : UInt8) (hm : Lib.indexByte l c ≠ -1) : ∃ a b, l = a ++ c :: b ∧ c ∉ a := by
  obtain ⟨o, ho⟩ : ∃ o : Nat, Lib.indexByte l c = o := ⟨(Lib.indexByte l c).toNat, by have := Lib.indexByte_ge l c; omega⟩
  obtain ⟨h1, h2⟩ := Lib.indexByte_some ho
  obtain ⟨hol, h1'⟩ := List.getElem?_eq_some_iff.1 h1
  refine ⟨l.take o, l.drop (o + 1), ?_, ?_⟩
  · conv => lhs; rw [← List.take_append_drop o l]
    rw [List.drop_eq_getElem_cons hol, h1']
  · intro hc
    obtain ⟨k, hk, e⟩ := List.getElem_of_mem hc
    rw [List.length_take] at hk
    rw [List.getElem_take] at e
    exact h2 k (by omega) (by rw [List.getElem?_eq_getElem (by omega), e])
theorem cut_no (l : List UInt8) (c : UInt8) : c ∉ cutOf l c ∧ (cutOf l c).length ≤ l.length := by
  unfold cutOf
  by_cases hm : Lib.indexByte l c = -1
  · have hno : c ∉ l := by
      intro hc
      obtain ⟨k, hk, e⟩ := List.getElem_of_mem hc
      exact Lib.indexByte_none hm k (by rw [List.getElem?_eq_getElem hk, e])
    rw [pcs_none c l [] hno]
    simpa using hno
  · obtain ⟨a, b, rfl, hna⟩ := first_split l c hm
    rw [pcs_hit c a b [] hna]
    simp [hna]
def verRes (s : ByteArray) : ByteArray × Bool := if (appRes (ofL (cutOf s.data.toList 35))).2 = true ∧ (appRes (ofL (cutOf s.data.toList 35))).1 = s then (ofL (cutOf s.data.toList 35), true) else (⟨#[]⟩, false)
theorem spec_verify (s : ByteArray) : spec_VerifyChecksum.f 5000 s = some (verRes s) := by
  unfold spec_VerifyChecksum.f verRes
  have hc := cut_no s.data.toList 35
  have hcs : (ofL (cutOf s.data.toList 35)).size ≤ s.size := by
    have := hc.2
    rw [size_len, size_len, ofL_list]; exact this
  have hcon : (ofL (cutOf s.data.toList 35)).data.toList.contains 35 = false := by
    rw [ofL_list]
    simpa using hc.1
  by_cases h1 : s.size ≤ 4000
  · rw [if_neg (by omega), show (35 : Int) = (((35 : UInt8).toNat : Nat) : Int) from rfl, spec_split s 35 (by omega) 5000 (by omega)]
    simp only [Option.bind_some]
    have hne : 0 < (partsOf s 35).length := by
      have := pcs_ne 35 s.data.toList []
      unfold partsOf
      rw [List.length_map]
      exact List.length_pos_iff.2 this
    have hhd : rdOf ByteArray.empty (partsOf s 35) 0 = ofL (cutOf s.data.toList 35) := by
      unfold partsOf cutOf
      have := pcs_ne 35 s.data.toList []
      cases hp : pcs 35 [] s.data.toList with
      | nil => exact absurd hp this
      | cons x r => simp [rdOf]
    rw [if_pos (by omega), hhd, spec_seal _ (by omega) 5000 (by omega)]
    simp only [Option.bind_some]
    rw [Lib.toList_data, Lib.toList_data]
    generalize ht : ofL (cutOf s.data.toList 35) = t at *
    by_cases he : sealOf t = s
    · have hz : (sealOf t).size ≤ 4000 := by rw [he]; exact h1
      have ha : appRes t = (s, true) := by unfold appRes; rw [if_pos ⟨by omega, hcon, hz⟩, he]
      rw [if_pos (by rw [he]), ha, if_pos ⟨rfl, rfl⟩]
    · rw [if_neg (fun h => he (ByteArray.ext (Array.ext' h))), if_neg]
      intro h
      unfold appRes at h
      split at h
      · exact he h.2
      · exact absurd h.1 (by simp)
  · rw [if_pos (by omega), if_neg]
    intro h
    unfold appRes at h
    split at h
    · rename_i hh
      have h2 := h.2
      have := hh.2.2
      simp only at h2
      rw [h2] at this
      exact h1 this
    · exact absurd h.1 (by simp)
end Go.Proofs.YtnbcmjoimenhjaaDoor
