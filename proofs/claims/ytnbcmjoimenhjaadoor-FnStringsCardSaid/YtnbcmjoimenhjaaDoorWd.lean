/- What impl.AppendChecksum returns, for every string, and the law's walk. -/
import Derived.Test.YtnbcmjoimenhjaaDoorWa
import Derived.Test.YtnbcmjoimenhjaaDoorNc
import Derived.Test.YtnbcmjoimenhjaaDoorShC
namespace Go.Proofs.YtnbcmjoimenhjaaDoor
open Go.RowKit
theorem contains_hash (s : ByteArray) (w : World) : Calls Tryd.prog 40 #[.string s, .string ⟨#[35]⟩] w fun e w' => e = .returned (.bool (s.data.toList.contains 35)) ∧ w' = w := by
  have h := Any.strings_Contains_one Tryd.lays144 s 35 w
  rw [index_contains] at h
  exact h
theorem implAppend_long (s : ByteArray) (h : ¬ s.size ≤ 4000) (w : World) :
    Calls Tryd.prog 26 #[.string s] w fun e w' => e = .returned (.tuple #[.string ⟨#[]⟩, .bool false]) ∧ Below w.heap.size w w' := by
  go_enter Tryd.func26, Tryd.ntmps26
  go_wp2_with (fail)
  all_goals first | (exfalso; simp at *; omega) | (go_ret2; exact ⟨rfl, Below.refl _ _⟩)
theorem implAppend_hash (s : ByteArray) (h : s.size ≤ 4000) (hc : s.data.toList.contains 35 = true) (w : World) :
    Calls Tryd.prog 26 #[.string s] w fun e w' => e = .returned (.tuple #[.string ⟨#[]⟩, .bool false]) ∧ Below w.heap.size w w' := by
  have hh := contains_hash s
  rw [hc] at hh
  go_enter Tryd.func26, Tryd.ntmps26
  go_wp2_with (first | (go_at_call 40; refine (hh _).mono ?_; rintro e w1 ⟨rfl, rfl⟩))
  all_goals first | (exfalso; simp at *; omega) | (go_ret2; exact ⟨rfl, Below.refl _ _⟩)
theorem implAppend_go (s : ByteArray) (h : s.size ≤ 4000) (hc : s.data.toList.contains 35 = false) (w : World) (htab : Lib.TabIs Tryd.prog w "internal/strconv.uint64pow10" .u64 Lib.pow10Tab) :
    Calls Tryd.prog 26 #[.string s] w fun e w' => e = .returned (.tuple (if (sealOf s).size ≤ 4000 then #[.string (sealOf s), .bool true] else #[.string ⟨#[]⟩, .bool false])) ∧ Below w.heap.size w w' := by
  have hh := contains_hash s
  rw [hc] at hh
  have hsum := impl_sum s (by omega) 5000 (by omega)
  have hlt := sumOf_lt s
  have hlen : (Lib.itoa ((sumOf s : Nat) : Int)).length ≤ 6 := by rw [itoa_nat]; exact dec_len6 _ (by omega)
  have hz : (sealOf s).size = s.size + 1 + (Lib.itoa ((sumOf s : Nat) : Int)).length := by
    unfold sealOf
    rw [ByteArray.size_append, ByteArray.size_append]
    rfl
  generalize hr : (if (sealOf s).size ≤ 4000 then (#[.string (sealOf s), .bool true] : Array Value) else #[.string ⟨#[]⟩, .bool false]) = r
  go_enter Tryd.func26, Tryd.ntmps26
  go_wp2_with (first
    | (go_at_call 40; refine (hh _).mono ?_; rintro e w1 ⟨rfl, rfl⟩)
    | (go_at_call 50; refine (S.impl_checksum.calls 5000 s _ _ hsum).mono ?_; rintro e w2 ⟨rfl, hd⟩)
    | (go_at_call 45; refine (Tryd.strconv_Itoa _ (by omega) (by omega) _ (Lib.tabBelow_of_tabIs htab _ hd.below)).mono ?_; rintro e w3 ⟨rfl, k, os, rfl⟩))
  all_goals first
    | (exfalso; omega)
    | (have e : ¬ (sealOf s).size ≤ 4000 := by omega
       rw [if_neg e] at hr
       subst hr
       go_ret2
       exact ⟨rfl, hd.below.trans ((Lib.below_grow _ _ (Nat.le_refl _) _ _).mono hd.below.size)⟩)
    | (have e : (sealOf s).size ≤ 4000 := by omega
       rw [if_pos e] at hr
       subst hr
       go_ret2
       exact ⟨rfl, hd.below.trans ((Lib.below_grow _ _ (Nat.le_refl _) _ _).mono hd.below.size)⟩)
theorem implAppend (s : ByteArray) (w : World) (htab : Lib.TabIs Tryd.prog w "internal/strconv.uint64pow10" .u64 Lib.pow10Tab) :
    Calls Tryd.prog 26 #[.string s] w fun e w' => e = .returned (.tuple #[.string (appRes s).1, .bool (appRes s).2]) ∧ Below w.heap.size w w' := by
  unfold appRes
  by_cases h : s.size ≤ 4000
  · cases hc : s.data.toList.contains 35 with
    | true => rw [if_neg (fun h => by have := h.2.1; simp at this)]; exact implAppend_hash s h hc w
    | false =>
      have := implAppend_go s h hc w htab
      by_cases hz : (sealOf s).size ≤ 4000
      · rw [if_pos hz] at this; rw [if_pos ⟨h, rfl, hz⟩]; exact this
      · rw [if_neg hz] at this; rw [if_neg (fun h => hz h.2.2)]; exact this
  · rw [if_neg (fun hh => h hh.1)]; exact implAppend_long s h w
theorem lawAppendChecksum (s : ByteArray) (w : World) (htab : Lib.TabIs Tryd.prog w "internal/strconv.uint64pow10" .u64 Lib.pow10Tab) :
    Calls Tryd.prog 8 #[.string s] w fun e w' => e = .returned (.bool true) ∧ Below w.heap.size w w' := by
  by_cases h : s.size ≤ 1048576
  · have hs := spec_append s
    have hi := implAppend s
    generalize appRes s = q at hs hi
    obtain ⟨q1, q2⟩ := q
    go_enter Tryd.func8, Tryd.ntmps8
    go_wp2_with (first
      | (go_at_call 27; refine (S.spec_AppendChecksum.calls 5000 s _ _ _ hs).mono ?_; rintro e w1 ⟨rfl, hb1⟩)
      | (go_at_call 26; refine (hi _ (Lib.tabBelow_of_tabIs htab _ hb1)).mono ?_; rintro e w2 ⟨rfl, hb2⟩))
    all_goals first | (exfalso; simp at *; omega) | (go_ret; exact ⟨rfl, hb1.trans (hb2.mono hb1.size)⟩)
  · go_enter Tryd.func8, Tryd.ntmps8
    go_wp2_with (fail)
    all_goals first | (exfalso; simp at *; omega) | (go_ret; exact ⟨rfl, Below.refl _ _⟩)
end Go.Proofs.YtnbcmjoimenhjaaDoor
