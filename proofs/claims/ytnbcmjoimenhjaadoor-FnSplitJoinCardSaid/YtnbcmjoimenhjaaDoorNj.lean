/- Plain law: the joined text, as the reference makes it. No condition beyond the bounds. -/
import Derived.Test.YtnbcmjoimenhjaaDoorS8
import Derived.Test.YtnbcmjoimenhjaaDoorNf
import Derived.Test.YtnbcmjoimenhjaaDoorWf
import Derived.Lib.Bytealg
import Derived.Lib.Join
import Derived.Lib.Strings
namespace Go.Proofs.YtnbcmjoimenhjaaDoor
open Go.RowKit S Go.Proofs.YtnbcmjoimenhjaaDoorW.PrintWords Go.Proofs.YtnbcmjoimenhjaaDoorW.PrintLast
theorem join_snoc (sep : List UInt8) (x : List UInt8) : ∀ (xs : List (List UInt8)), xs ≠ [] → sep.intercalate (xs ++ [x]) = sep.intercalate xs ++ sep ++ x
  | [], h => absurd rfl h
  | [a], _ => by simp [List.intercalate, List.intersperse]
  | a :: b :: r, _ => by
    have ih := join_snoc sep x (b :: r) (by simp)
    have e1 : sep.intercalate (a :: b :: (r ++ [x])) = a ++ sep ++ sep.intercalate (b :: (r ++ [x])) := by simp [List.intercalate, List.intersperse]
    have e2 : sep.intercalate (a :: b :: r) = a ++ sep ++ sep.intercalate (b :: r) := by simp [List.intercalate, List.intersperse]
    rw [List.cons_append, List.cons_append, e1, e2]
    rw [List.cons_append] at ih
    rw [ih]
    simp
def tot (l : List ByteArray) : Nat := (l.map (·.size)).sum
theorem tot_snoc (l : List ByteArray) (i : Nat) (h : i < l.length) : tot (l.take (i + 1)) = tot (l.take i) + (l.getD i ByteArray.empty).size := by
  unfold tot
  rw [List.take_succ_eq_append_getElem h, List.map_append, List.sum_append]
  simp [List.getD_eq_getElem?_getD, List.getElem?_eq_getElem h]
theorem tot_le (l : List ByteArray) : ∀ i, tot (l.take i) ≤ tot l := by
  intro i
  unfold tot
  conv => rhs; rw [← List.take_append_drop i l]
  rw [List.map_append, List.sum_append]; omega
/-- the text behind i parts -/
def outAt (l : List ByteArray) (sep : ByteArray) : Nat → ByteArray
  | 0 => ⟨#[]⟩
  | i + 1 => if 0 < i then (outAt l sep i ++ sep) ++ l.getD i ByteArray.empty else outAt l sep i ++ l.getD i ByteArray.empty
theorem out_size (l : List ByteArray) (sep : ByteArray) (h1 : sep.size = 1) : ∀ i, i ≤ l.length → (outAt l sep i).size = tot (l.take i) + (i - 1)
  | 0, _ => by simp [outAt, tot]; rfl
  | i + 1, h => by
    have ih := out_size l sep h1 i (by omega)
    have ht := tot_snoc l i (by omega)
    unfold outAt
    split
    · rw [ByteArray.size_append, ByteArray.size_append, ih, h1]; omega
    · rw [ByteArray.size_append, ih]; omega
theorem out_join (l : List ByteArray) (sep : ByteArray) : ∀ i, i ≤ l.length → (outAt l sep i).data.toList = Lib.join ((l.take i).map (·.data.toList)) sep.data.toList
  | 0, _ => by simp [outAt, Lib.join]
  | i + 1, h => by
    have ih := out_join l sep i (by omega)
    have hg : l.getD i ByteArray.empty = l[i] := by simp [List.getD_eq_getElem?_getD, List.getElem?_eq_getElem (show i < l.length by omega)]
    unfold outAt
    rw [List.take_succ_eq_append_getElem (by omega), List.map_append, List.map_cons, List.map_nil, hg]
    split
    · rename_i hi
      have hne : (l.take i).map (·.data.toList) ≠ [] := by
        intro e
        have := congrArg List.length e
        rw [List.length_map, List.length_take, List.length_nil] at this
        omega
      rw [show ((outAt l sep i ++ sep) ++ l[i]).data.toList = (outAt l sep i).data.toList ++ sep.data.toList ++ l[i].data.toList by simp, ih]
      unfold Lib.join
      rw [join_snoc _ _ _ hne]
    · have : i = 0 := by omega
      subst this
      simp [outAt, Lib.join]
def goodJ (l : List ByteArray) (sep : ByteArray) : Prop := sep.size = 1 ∧ l ≠ [] ∧ (∀ p ∈ l, p.data.toList.contains (sep.data.toList.headD 0) = false) ∧ tot l + (l.length - 1) ≤ 4000
open Classical in
noncomputable def joinRes (l : List ByteArray) (sep : ByteArray) : ByteArray × Bool := if goodJ l sep then (outAt l sep l.length, true) else (⟨#[]⟩, false)
theorem rd_eq (l : List ByteArray) (i : Nat) : rdOf ByteArray.empty l (i : Int) = l.getD i ByteArray.empty := by unfold rdOf; rw [Int.toNat_natCast]
theorem getD_mem (l : List ByteArray) (i : Nat) (h : i < l.length) : l.getD i ByteArray.empty ∈ l := by
  rw [show l.getD i ByteArray.empty = l[i] by simp [List.getD_eq_getElem?_getD, List.getElem?_eq_getElem h]]
  exact List.getElem_mem h
theorem sep_bt (sep : ByteArray) (h1 : sep.size = 1) : bt sep 0 = (((sep.data.toList.headD 0).toNat : Nat) : Int) := by
  have hl : 0 < sep.data.toList.length := by rw [← size_len]; omega
  have := bt_list sep 0 hl
  cases hd : sep.data.toList with
  | nil => rw [hd] at hl; simp at hl
  | cons c r => simpa [hd] using this
section
variable (l : List ByteArray) (sep : ByteArray) (h1 : sep.size = 1) (hl : l.length ≤ 2000000) (hs : ∀ p ∈ l, p.size ≤ 2000000) (ht : tot l ≤ 2000000)
include h1 hl hs ht
theorem join_good (hg : goodJ l sep) : ∀ (d i k : Nat), i + d = l.length → d + 3000000 < k → spec_JoinStrings.l0 k l sep (outAt l sep i) (i : Int) = some (outAt l sep l.length, true)
  | 0, i, k, hi, hk => by
    obtain ⟨k, rfl⟩ : ∃ m, k = m + 1 := ⟨k - 1, by omega⟩
    rw [spec_JoinStrings.l0, if_neg (by omega), show i = l.length by omega]
  | d + 1, i, k, hi, hk => by
    obtain ⟨k, rfl⟩ : ∃ m, k = m + 1 := ⟨k - 1, by omega⟩
    have hm := getD_mem l i (by omega)
    have hz := out_size l sep h1 i (by omega)
    have hz1 := out_size l sep h1 (i + 1) (by omega)
    have htt := tot_le l i
    have htt1 := tot_le l (i + 1)
    have hsz := hs _ hm
    have h4 := hg.2.2.2
    rw [spec_JoinStrings.l0, if_pos (by omega), if_pos (by omega), if_pos (by omega), rd_eq, sep_bt sep h1, spec_stands _ _ (by omega) k (by omega), hg.2.2.1 _ hm]
    simp only [Option.bind_some]
    rw [if_neg (by simp)]
    by_cases h0 : 0 < i
    · have e : (outAt l sep i ++ sep) ++ l.getD i ByteArray.empty = outAt l sep (i + 1) := by rw [outAt, if_pos h0]
      have ez : (outAt l sep i ++ sep).size = (outAt l sep i).size + sep.size := ByteArray.size_append
      rw [if_pos (by omega), if_pos (by omega), if_pos (by omega), e, if_neg (by omega), step_big i (by omega)]
      exact join_good hg d (i + 1) k (by omega) (by omega)
    · have e : outAt l sep i ++ l.getD i ByteArray.empty = outAt l sep (i + 1) := by rw [outAt, if_neg h0]
      rw [if_neg (by omega), if_pos (by omega), e, if_neg (by omega), step_big i (by omega)]
      exact join_good hg d (i + 1) k (by omega) (by omega)
theorem bad_step (i k : Nat) (hil : i < l.length) (hk : 3000000 < k) (hnext : (l.getD i ByteArray.empty).data.toList.contains (sep.data.toList.headD 0) = false → ¬ 4000 < (outAt l sep (i + 1)).size → spec_JoinStrings.l0 k l sep (outAt l sep (i + 1)) (((i + 1 : Nat)) : Int) = some (⟨#[]⟩, false)) : spec_JoinStrings.l0 (k + 1) l sep (outAt l sep i) (i : Int) = some (⟨#[]⟩, false) := by
  have hm := getD_mem l i hil
  have hz := out_size l sep h1 i (by omega)
  have hz1 := out_size l sep h1 (i + 1) (by omega)
  have htt := tot_le l i
  have htt1 := tot_le l (i + 1)
  have hsz := hs _ hm
  rw [spec_JoinStrings.l0, if_pos (by omega), if_pos (by omega), if_pos (by omega), rd_eq, sep_bt sep h1, spec_stands _ _ (by omega) k (by omega)]
  simp only [Option.bind_some]
  cases hc : (l.getD i ByteArray.empty).data.toList.contains (sep.data.toList.headD 0) with
  | true => rw [if_pos rfl]
  | false =>
    rw [if_neg (by simp)]
    by_cases h0 : 0 < i
    · have e : (outAt l sep i ++ sep) ++ l.getD i ByteArray.empty = outAt l sep (i + 1) := by rw [outAt, if_pos h0]
      have ez : (outAt l sep i ++ sep).size = (outAt l sep i).size + sep.size := ByteArray.size_append
      rw [if_pos (by omega), if_pos (by omega), if_pos (by omega), e, step_big i (by omega)]
      by_cases h4 : 4000 < (outAt l sep (i + 1)).size
      · rw [if_pos (by omega)]
      · rw [if_neg (by omega)]; exact hnext hc h4
    · have e : outAt l sep i ++ l.getD i ByteArray.empty = outAt l sep (i + 1) := by rw [outAt, if_neg h0]
      rw [if_neg (by omega), if_pos (by omega), e, step_big i (by omega)]
      by_cases h4 : 4000 < (outAt l sep (i + 1)).size
      · rw [if_pos (by omega)]
      · rw [if_neg (by omega)]; exact hnext hc h4
theorem join_bad (j : Nat) (hj : j < l.length) (hb : (l.getD j ByteArray.empty).data.toList.contains (sep.data.toList.headD 0) = true ∨ 4000 < (outAt l sep (j + 1)).size) (d : Nat) : ∀ (i k : Nat), i + d = j → d + 3000000 < k → spec_JoinStrings.l0 (k + 1) l sep (outAt l sep i) (i : Int) = some (⟨#[]⟩, false) := by
  induction d with
  | zero =>
    intro i k hi hk
    have : i = j := by omega
    subst this
    refine bad_step l sep h1 hl hs ht i k hj (by omega) fun hc hn => ?_
    rcases hb with hb | hb
    · rw [hc] at hb; cases hb
    · exact absurd hb hn
  | succ d ih =>
    intro i k hi hk
    refine bad_step l sep h1 hl hs ht i k (by omega) (by omega) fun hc hn => ?_
    obtain ⟨k', rfl⟩ : ∃ m, k = m + 1 := ⟨k - 1, by omega⟩
    exact ih (i + 1) k' (by omega) (by omega)
end
/-- where it is not good: a first reason -/
theorem bad_at (l : List ByteArray) (sep : ByteArray) (h1 : sep.size = 1) (hne : l ≠ []) (hg : ¬ goodJ l sep) : (∃ j, j < l.length ∧ (l.getD j ByteArray.empty).data.toList.contains (sep.data.toList.headD 0) = true) ∨ (4000 < tot l + (l.length - 1)) := by
  by_cases hc : ∀ p ∈ l, p.data.toList.contains (sep.data.toList.headD 0) = false
  · right
    by_cases h4 : tot l + (l.length - 1) ≤ 4000
    · exact absurd ⟨h1, hne, hc, h4⟩ hg
    · omega
  · left
    obtain ⟨p, hp⟩ := Classical.not_forall.1 hc
    obtain ⟨hm, hn⟩ := Classical.not_imp.1 hp
    obtain ⟨j, hj, e⟩ := List.getElem_of_mem hm
    refine ⟨j, hj, ?_⟩
    rw [show l.getD j ByteArray.empty = l[j] by simp [List.getD_eq_getElem?_getD, List.getElem?_eq_getElem hj], e]
    simpa using hn
theorem spec_join (l : List ByteArray) (sep : ByteArray) (hl : l.length ≤ 2000000) (hs : ∀ p ∈ l, p.size ≤ 2000000) (ht : tot l ≤ 2000000) : spec_JoinStrings.f 6000000 l sep = some (joinRes l sep) := by
  unfold spec_JoinStrings.f joinRes
  by_cases h1 : sep.size = 1
  · rw [if_pos (by omega), show (6000000 : Nat) = 5999999 + 1 from rfl, spec_JoinStrings.j0]
    by_cases hne : l = []
    · subst hne
      rw [if_pos (by simp), if_neg (fun h => h.2.1 rfl)]
    · have hpos : 0 < l.length := List.length_pos_iff.2 hne
      rw [if_neg (by simp; exact hne)]
      by_cases hg : goodJ l sep
      · rw [if_pos hg]
        exact join_good l sep h1 hl hs ht hg l.length 0 5999999 (by omega) (by omega)
      · rw [if_neg hg]
        rcases bad_at l sep h1 hne hg with ⟨j, hj, hc⟩ | h4
        · exact join_bad l sep h1 hl hs ht j hj (Or.inl hc) j 0 5999998 (by omega) (by omega)
        · have hz := out_size l sep h1 l.length (Nat.le_refl _)
          rw [List.take_length] at hz
          exact join_bad l sep h1 hl hs ht (l.length - 1) (by omega) (Or.inr (by rw [show l.length - 1 + 1 = l.length by omega, hz]; omega)) (l.length - 1) 0 5999998 (by omega) (by omega)
  · rw [if_neg (by omega), show (6000000 : Nat) = 5999999 + 1 from rfl, spec_JoinStrings.j0, if_pos rfl, if_neg (fun h => h1 h.1)]
end Go.Proofs.YtnbcmjoimenhjaaDoor
