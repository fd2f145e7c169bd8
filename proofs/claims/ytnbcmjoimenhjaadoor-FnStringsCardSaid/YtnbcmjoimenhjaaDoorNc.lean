/- Plain law: checksums and seals, as the reference and the program make them. No condition beyond the bounds. -/
import Derived.Test.YtnbcmjoimenhjaaDoorS3
import Derived.Test.YtnbcmjoimenhjaaDoorNb
import Derived.Lib.Bytealg
namespace Go.Proofs.YtnbcmjoimenhjaaDoor
open Go.RowKit S Go.Proofs.YtnbcmjoimenhjaaDoorW.PrintWords
def sumL : Nat → List UInt8 → Nat
  | h, [] => h
  | h, c :: r => sumL ((41 * h + c.toNat + 1) % 999979) r
theorem sumL_lt : ∀ (l : List UInt8) (h : Nat), h < 999979 → sumL h l < 999979
  | [], h, hh => hh
  | c :: r, h, hh => sumL_lt r _ (Nat.mod_lt _ (by decide))
theorem sum_step (h c : Nat) (hh : h < 999979) (hc : c < 256) : Int.tmod (wrap64 ((wrap64 ((wrap64 (41 * (h : Int))) + (wrap64 (c : Int)))) + 1)) 999979 = (((41 * h + c + 1) % 999979 : Nat) : Int) := by
  have e1 : wrap64 (41 * (h : Int)) = 41 * (h : Int) := by unfold wrap64; omega
  have e2 : wrap64 (c : Int) = (c : Int) := by unfold wrap64; omega
  have e3 : wrap64 (41 * (h : Int) + (c : Int)) = 41 * (h : Int) + (c : Int) := by unfold wrap64; omega
  have e4 : wrap64 (41 * (h : Int) + (c : Int) + 1) = 41 * (h : Int) + (c : Int) + 1 := by unfold wrap64; omega
  rw [e1, e2, e3, e4, Int.tmod_eq_emod_of_nonneg (by omega)]
  omega
theorem step_big (i : Nat) (h : i ≤ 1000000000) : wrap64 ((i : Int) + 1) = ((i + 1 : Nat) : Int) := by unfold wrap64; omega
theorem sum_l0 (s : ByteArray) (hs : s.size ≤ 10000000) : ∀ (d i h k : Nat), i + d = s.size → h < 999979 → d < k → spec_l1Sum.l0 k s (h : Int) (i : Int) = some ((sumL h (s.data.toList.drop i) : Nat) : Int) ∧ impl_checksum.l0 k s (h : Int) (s.size : Int) (i : Int) = some ((sumL h (s.data.toList.drop i) : Nat) : Int)
  | 0, i, h, k, hi, hh, hk => by
    obtain ⟨k, rfl⟩ : ∃ m, k = m + 1 := ⟨k - 1, by omega⟩
    rw [spec_l1Sum.l0, impl_checksum.l0, if_neg (by omega), if_neg (by omega), List.drop_of_length_le (by rw [← size_len]; omega)]
    exact ⟨rfl, rfl⟩
  | d + 1, i, h, k, hi, hh, hk => by
    obtain ⟨k, rfl⟩ : ∃ m, k = m + 1 := ⟨k - 1, by omega⟩
    have hil : i < s.data.toList.length := by rw [← size_len]; omega
    rw [spec_l1Sum.l0, impl_checksum.l0, if_pos (by omega), if_pos (by omega), if_pos (by omega), if_pos (by omega), if_pos (by omega), bt_list s i hil, List.drop_eq_getElem_cons hil]
    have hb : (s.data.toList[i]).toNat < 256 := UInt8.toNat_lt _
    rw [sum_step _ _ hh hb, step_big i (by omega)]
    exact sum_l0 s hs d (i + 1) _ k (by omega) (Nat.mod_lt _ (by decide)) (by omega)
def sumOf (s : ByteArray) : Nat := sumL 7 s.data.toList
theorem sumOf_lt (s : ByteArray) : sumOf s < 999979 := sumL_lt _ _ (by decide)
theorem spec_sum (s : ByteArray) (hs : s.size ≤ 10000000) (k : Nat) (hk : s.size < k) : spec_l1Sum.f k s = some ((sumOf s : Nat) : Int) := by
  have := (sum_l0 s hs s.size 0 7 k (by omega) (by decide) hk).1
  simpa [spec_l1Sum.f, sumOf] using this
theorem impl_sum (s : ByteArray) (hs : s.size ≤ 10000000) (k : Nat) (hk : s.size < k) : impl_checksum.f k s = some ((sumOf s : Nat) : Int) := by
  have := (sum_l0 s hs s.size 0 7 k (by omega) (by decide) hk).2
  simpa [impl_checksum.f, sumOf] using this
theorem stands_l0 (s : ByteArray) (c : UInt8) (hs : s.size ≤ 10000000) : ∀ (d i k : Nat), i + d = s.size → d < k → spec_l1Stands.l0 k s (c.toNat : Int) (i : Int) = some ((s.data.toList.drop i).contains c)
  | 0, i, k, hi, hk => by
    obtain ⟨k, rfl⟩ : ∃ m, k = m + 1 := ⟨k - 1, by omega⟩
    rw [spec_l1Stands.l0, if_neg (by omega), List.drop_of_length_le (by rw [← size_len]; omega)]
    rfl
  | d + 1, i, k, hi, hk => by
    obtain ⟨k, rfl⟩ : ∃ m, k = m + 1 := ⟨k - 1, by omega⟩
    have hil : i < s.data.toList.length := by rw [← size_len]; omega
    rw [spec_l1Stands.l0, if_pos (by omega), if_pos (by omega), bt_list s i hil, List.drop_eq_getElem_cons hil, List.contains_cons]
    by_cases he : s.data.toList[i] = c
    · rw [if_pos (by rw [he]), he]; simp
    · rw [if_neg (by intro h; exact he (UInt8.toNat_inj.1 (by omega))), step_big i (by omega), stands_l0 s c hs d (i + 1) k (by omega) (by omega)]
      have : (c == s.data.toList[i]) = false := by rw [beq_eq_false_iff_ne]; exact fun h => he h.symm
      rw [this, Bool.false_or]
theorem spec_stands (s : ByteArray) (c : UInt8) (hs : s.size ≤ 10000000) (k : Nat) (hk : s.size < k) : spec_l1Stands.f k s (c.toNat : Int) = some (s.data.toList.contains c) := by
  have := stands_l0 s c hs s.size 0 k (by omega) hk
  simpa [spec_l1Stands.f] using this
theorem index_contains (c : UInt8) : ∀ l : List UInt8, decide (0 ≤ Lib.indexByte l c) = l.contains c
  | [] => by simp [Lib.indexByte]
  | b :: l => by
    have ih := index_contains c l
    rw [List.contains_cons, ← ih]
    have hg := Lib.indexByte_ge l c
    rw [Lib.indexByte]
    cases hb : b == c with
    | true =>
      have : b = c := by simpa using hb
      subst this
      simp
    | false =>
      have hcb : (c == b) = false := by
        rw [beq_eq_false_iff_ne] at hb ⊢
        exact fun h => hb h.symm
      rw [hcb, Bool.false_or, if_neg (by simp)]
      by_cases hm : Lib.indexByte l c = -1
      · rw [hm]; rfl
      · rw [if_neg (by simpa using hm)]
        have : 0 ≤ Lib.indexByte l c := by omega
        rw [decide_eq_true this, decide_eq_true (by omega)]
def sealOf (s : ByteArray) : ByteArray := (s ++ (⟨#[35]⟩ : ByteArray)) ++ ⟨(Lib.itoa ((sumOf s : Nat) : Int)).toArray⟩
theorem seal_size (s : ByteArray) : (sealOf s).size ≤ s.size + 7 := by
  have h := dec_len6 (sumOf s) (by have := sumOf_lt s; omega)
  unfold sealOf
  rw [ByteArray.size_append, ByteArray.size_append, itoa_nat]
  have e : (⟨(Lib.decDigits (sumOf s)).toArray⟩ : ByteArray).size = (Lib.decDigits (sumOf s)).length := by rw [size_len]
  rw [e]
  show s.size + 1 + _ ≤ _
  omega
theorem spec_seal (s : ByteArray) (hs : s.size ≤ 10000000) (k : Nat) (hk : s.size + 10 < k) : spec_l1Seal.f k s = some (sealOf s) := by
  unfold spec_l1Seal.f
  rw [if_pos (by omega), spec_sum s hs k (by omega)]
  have hn := at_rounds (fun k => spec_l1Num.mono ((sumOf s : Nat) : Int) k) (show 9 ≤ k by omega) (num_int _ (by omega) (by have := sumOf_lt s; omega))
  simp only [Option.bind_some, hn]
  have hz := seal_size s
  rw [if_pos ?_]
  · rfl
  · have : (sealOf s).size = (s ++ (⟨#[35]⟩ : ByteArray)).size + (⟨(Lib.itoa ((sumOf s : Nat) : Int)).toArray⟩ : ByteArray).size := by unfold sealOf; rw [ByteArray.size_append]
    omega
def appRes (s : ByteArray) : ByteArray × Bool := if s.size ≤ 4000 ∧ s.data.toList.contains 35 = false ∧ (sealOf s).size ≤ 4000 then (sealOf s, true) else (⟨#[]⟩, false)
theorem spec_append (s : ByteArray) : spec_AppendChecksum.f 5000 s = some (appRes s) := by
  unfold spec_AppendChecksum.f appRes
  by_cases h1 : s.size ≤ 4000
  · rw [if_neg (by omega), show (35 : Int) = (((35 : UInt8).toNat : Nat) : Int) from rfl, spec_stands s 35 (by omega) 5000 (by omega), spec_seal s (by omega) 5000 (by omega)]
    simp only [Option.bind_some]
    cases hc : s.data.toList.contains 35 with
    | true => simp
    | false =>
      by_cases h2 : (sealOf s).size ≤ 4000
      · rw [if_neg (by simp), if_neg (by omega), if_pos ⟨h1, rfl, h2⟩]
      · rw [if_neg (by simp), if_pos (by omega), if_neg (fun h => h2 h.2.2)]
  · rw [if_pos (by omega), if_neg (fun h => h1 h.1)]
end Go.Proofs.YtnbcmjoimenhjaaDoor
