/- Plain law: marks laid into a list of texts are found again; equal lists are equal. No condition beyond the bounds. -/
import Derived.Test.YtnbcmjoimenhjaaDoorS5
import Derived.Test.YtnbcmjoimenhjaaDoorNd
namespace Go.Proofs.YtnbcmjoimenhjaaDoor
open Go.RowKit S Go.Proofs.YtnbcmjoimenhjaaDoorW.PrintWords Go.Proofs.YtnbcmjoimenhjaaDoorW.PrintLast
theorem mark_l0 : ∀ (j k x : Nat) (acc : ByteArray), x < 10 ^ j → x < 10000000000 → j < k → acc.size + j ≤ 100 → ∃ r, laws_markText.l0 k (x : Int) acc = some r
  | 0, k, x, acc, hx, hb, hk, ha => by
    obtain ⟨k, rfl⟩ : ∃ m, k = m + 1 := ⟨k - 1, by omega⟩
    have : x = 0 := by simpa using hx
    subst this
    rw [laws_markText.l0, if_neg (by decide), if_pos (by omega)]
    exact ⟨_, rfl⟩
  | j + 1, k, x, acc, hx, hb, hk, ha => by
    obtain ⟨k, rfl⟩ : ∃ m, k = m + 1 := ⟨k - 1, by omega⟩
    rw [laws_markText.l0]
    by_cases h0 : (x : Int) > 0
    · rw [if_pos h0]
      simp only [Option.bind_some, strOfNums_size, List.length_singleton]
      rw [if_pos (by omega)]
      have hx10 : x / 10 < 10 ^ j := by
        rw [Nat.pow_succ] at hx
        exact Nat.div_lt_of_lt_mul (by rw [Nat.mul_comm]; exact hx)
      have e : wrap64 (Int.tdiv (x : Int) 10) = ((x / 10 : Nat) : Int) := by rw [Int.tdiv_eq_ediv_of_nonneg (by omega)]; unfold wrap64; omega
      rw [e]
      exact mark_l0 j k (x / 10) _ hx10 (by omega) (by omega) (by rw [ByteArray.size_append, strOfNums_size]; simp; omega)
    · rw [if_neg h0, if_pos (by omega)]
      exact ⟨_, rfl⟩
theorem mark_text (x : Nat) (h : 0 < x) (hx : x < 10000) (k : Nat) (hk : 5 ≤ k) : ∃ r, laws_markText.f k (x : Int) = some r := by
  unfold laws_markText.f
  rw [if_neg (by omega)]
  exact mark_l0 4 k x _ (by simpa using hx) (by omega) (by omega) (by decide)
noncomputable def txt (x : Nat) : ByteArray := (laws_markText.f 5 (x : Int)).getD ByteArray.empty
theorem txt_eq (x : Nat) (h : 0 < x) (hx : x < 10000) (k : Nat) (hk : 5 ≤ k) : laws_markText.f k (x : Int) = some (txt x) := by
  obtain ⟨r, hr⟩ := mark_text x h hx 5 (Nat.le_refl _)
  have : txt x = r := by unfold txt; rw [hr]; rfl
  rw [this]
  exact at_rounds (fun k => laws_markText.mono x k) hk hr
theorem marks_l0 : ∀ (d i k : Nat) (L : List ByteArray), i + d = L.length → L.length < 9000 → (∀ j, j < i → L[j]? = some (txt (j + 1))) → d + 5 < k →
    ∃ M, laws_markStringS.l0 k L ((i + 1 : Nat) : Int) (i : Int) = some (((L.length + 1 : Nat) : Int), M) ∧ M.length = L.length ∧ ∀ j, j < L.length → M[j]? = some (txt (j + 1))
  | 0, i, k, L, hi, hl, hm, hk => by
    obtain ⟨k, rfl⟩ : ∃ m, k = m + 1 := ⟨k - 1, by omega⟩
    rw [laws_markStringS.l0, if_neg (by omega)]
    exact ⟨L, by rw [show i + 1 = L.length + 1 by omega], rfl, fun j hj => hm j (by omega)⟩
  | d + 1, i, k, L, hi, hl, hm, hk => by
    obtain ⟨k, rfl⟩ : ∃ m, k = m + 1 := ⟨k - 1, by omega⟩
    rw [laws_markStringS.l0, if_pos (by omega), txt_eq (i + 1) (by omega) (by omega) k (by omega)]
    simp only [Option.bind_some]
    rw [if_pos (by omega), step_big i (by omega), step_big (i + 1) (by omega), Int.toNat_natCast]
    obtain ⟨M, h1, h2, h3⟩ := marks_l0 d (i + 1) k (L.set i (txt (i + 1))) (by rw [List.length_set]; omega) (by rw [List.length_set]; omega) (fun j hj => by
      rcases Nat.lt_or_ge j i with h | h
      · rw [List.getElem?_set_ne (by omega)]; exact hm j h
      · obtain rfl : j = i := by omega
        rw [List.getElem?_set_self (by omega)]) (by omega)
    rw [List.length_set] at h1 h2 h3
    exact ⟨M, h1, h2, h3⟩
theorem marks (L : List ByteArray) (hl : L.length < 9000) (k : Nat) (hk : L.length + 6 < k) : ∃ M, laws_markStringS.f k L 1 = some (((L.length + 1 : Nat) : Int), M) ∧ M.length = L.length ∧ ∀ j, j < L.length → M[j]? = some (txt (j + 1)) := by
  have := marks_l0 L.length 0 k L (by omega) hl (fun j hj => by omega) (by omega)
  simpa [laws_markStringS.f] using this
theorem held_l0 (M : List ByteArray) (hl : M.length < 9000) (hm : ∀ j, j < M.length → M[j]? = some (txt (j + 1))) : ∀ (d i k : Nat), i + d = M.length → d + 5 < k →
    laws_heldStringS.l0 k M ((i + 1 : Nat) : Int) (i : Int) = some ((M.length + 1 : Nat) : Int)
  | 0, i, k, hi, hk => by
    obtain ⟨k, rfl⟩ : ∃ m, k = m + 1 := ⟨k - 1, by omega⟩
    rw [laws_heldStringS.l0, if_neg (by omega), show i + 1 = M.length + 1 by omega]
  | d + 1, i, k, hi, hk => by
    obtain ⟨k, rfl⟩ : ∃ m, k = m + 1 := ⟨k - 1, by omega⟩
    have hr : rdOf ByteArray.empty M (i : Int) = txt (i + 1) := by
      unfold rdOf
      rw [List.getD_eq_getElem?_getD, Int.toNat_natCast, hm i (by omega)]; rfl
    rw [laws_heldStringS.l0, if_pos (by omega), if_pos (by omega), txt_eq (i + 1) (by omega) (by omega) k (by omega)]
    simp only [Option.bind_some]
    rw [hr, if_pos rfl, step_big i (by omega), step_big (i + 1) (by omega)]
    exact held_l0 M hl hm d (i + 1) k (by omega) (by omega)
theorem held (M : List ByteArray) (hl : M.length < 9000) (hm : ∀ j, j < M.length → M[j]? = some (txt (j + 1))) (k : Nat) (hk : M.length + 6 < k) : laws_heldStringS.f k M 1 = some ((M.length + 1 : Nat) : Int) := by
  have := held_l0 M hl hm M.length 0 k (by omega) (by omega)
  simpa [laws_heldStringS.f] using this
theorem eq_l0 (L : List ByteArray) (hl : L.length < 9000) : ∀ (d i k : Nat), i + d = L.length → d < k → laws_eqStringS.l0 k L L (i : Int) = some true
  | 0, i, k, hi, hk => by
    obtain ⟨k, rfl⟩ : ∃ m, k = m + 1 := ⟨k - 1, by omega⟩
    rw [laws_eqStringS.l0, if_neg (by omega)]
  | d + 1, i, k, hi, hk => by
    obtain ⟨k, rfl⟩ : ∃ m, k = m + 1 := ⟨k - 1, by omega⟩
    rw [laws_eqStringS.l0, if_pos (by omega), if_pos (by omega), if_pos (by omega), if_pos rfl, step_big i (by omega)]
    exact eq_l0 L hl d (i + 1) k (by omega) (by omega)
theorem eq_same (L : List ByteArray) (hl : L.length < 9000) (k : Nat) (hk : L.length < k) : laws_eqStringS.f k L L = some true := by
  unfold laws_eqStringS.f
  rw [if_pos rfl]
  exact eq_l0 L hl L.length 0 k (by omega) hk
def splitRes (s sep : ByteArray) : List ByteArray × Bool := if sep.size = 1 ∧ s.size ≤ 4000 then (partsOf s (sep.data.toList.headD 0), true) else ([], false)
theorem split_len (s sep : ByteArray) : (splitRes s sep).1.length < 9000 := by
  unfold splitRes
  split
  · rename_i h
    have := pcs_len (sep.data.toList.headD 0) s.data.toList []
    unfold partsOf
    rw [List.length_map]
    rw [← size_len] at this
    omega
  · simp
theorem spec_splitString (s sep : ByteArray) : spec_SplitString.f 9100 s sep = some (splitRes s sep) := by
  unfold spec_SplitString.f splitRes
  by_cases h1 : sep.size = 1
  · rw [if_pos (by omega)]
    by_cases h2 : s.size ≤ 4000
    · have hb : bt sep 0 = (((sep.data.toList.headD 0).toNat : Nat) : Int) := by
        have hl : 0 < sep.data.toList.length := by rw [← size_len]; omega
        have := bt_list sep 0 hl
        cases hd : sep.data.toList with
        | nil => rw [hd] at hl; simp at hl
        | cons c r => simpa [hd] using this
      rw [if_neg (by omega), if_pos (by omega), if_pos ⟨h1, h2⟩, hb, spec_split s _ (by omega) 9100 (by omega)]
      rfl
    · rw [if_pos (by omega), if_neg (fun h => h2 h.2)]
  · rw [if_neg (by omega), if_neg (fun h => h1 h.1)]
end Go.Proofs.YtnbcmjoimenhjaaDoor
