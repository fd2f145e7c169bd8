/- What impl.VerifyChecksum returns, for every string shorter than 2^20, and the law's walk. -/
import Derived.Test.YtnbcmjoimenhjaaDoorWd
import Derived.Test.YtnbcmjoimenhjaaDoorNd
namespace Go.Proofs.YtnbcmjoimenhjaaDoor
open Go.RowKit
theorem below_draws0 (w : World) (n : Nat) : Below w.heap.size w (w.drewN n) := ⟨rfl, rfl, rfl, Nat.le_refl _, fun _ _ => rfl⟩
theorem cut_hash (s : ByteArray) (hs : s.size ≤ 1048576) (m : Int) (w : World) (hm : w.cell? ⟨0, 0, none⟩ = some (.int .i64 m)) :
    Calls Tryd.prog 52 #[.string s, .string ⟨#[35]⟩] w fun e w' => (∃ x b, e = .returned (.tuple #[.string (ofL (cutOf s.data.toList 35)), .string x, .bool b])) ∧ Below w.heap.size w w' := by
  refine (Any.strings_Cut { Tryd.laysM145 with } s ⟨#[35]⟩ m w (by omega) hm).mono ?_
  rintro e w' ⟨rfl, n, rfl⟩
  refine ⟨⟨_, _, by rw [← cut_head]; rfl⟩, below_draws0 _ _⟩
theorem implVerify (s : ByteArray) (hs : s.size ≤ 1048576) (m : Int) (w : World) (hm : w.cell? ⟨0, 0, none⟩ = some (.int .i64 m)) (htab : Lib.TabIs Tryd.prog w "internal/strconv.uint64pow10" .u64 Lib.pow10Tab) :
    Calls Tryd.prog 28 #[.string s] w fun e w' => e = .returned (.tuple #[.string (verRes s).1, .bool (verRes s).2]) ∧ Below w.heap.size w w' := by
  have hcut := cut_hash s hs m
  unfold verRes
  generalize ofL (cutOf s.data.toList 35) = t at *
  have hi := implAppend t
  generalize appRes t = q at *
  obtain ⟨q1, q2⟩ := q
  cases q2 with
  | false =>
    rw [if_neg (fun h => by have := h.1; simp at this)]
    go_enter Tryd.func28, Tryd.ntmps28
    go_wp2_with (first
      | (go_at_call 52; refine (hcut _ hm).mono ?_; rintro e w1 ⟨⟨x, b, rfl⟩, hb1⟩)
      | (go_at_call 26; refine (hi _ (Lib.tabBelow_of_tabIs htab _ hb1)).mono ?_; rintro e w2 ⟨rfl, hb2⟩))
    all_goals (go_ret2; exact ⟨rfl, hb1.trans (hb2.mono hb1.size)⟩)
  | true =>
    by_cases he : q1 = s
    · rw [if_pos ⟨rfl, he⟩]
      subst he
      go_enter Tryd.func28, Tryd.ntmps28
      go_wp2_with (first
        | (go_at_call 52; refine (hcut _ hm).mono ?_; rintro e w1 ⟨⟨x, b, rfl⟩, hb1⟩)
        | (go_at_call 26; refine (hi _ (Lib.tabBelow_of_tabIs htab _ hb1)).mono ?_; rintro e w2 ⟨rfl, hb2⟩))
      all_goals (go_ret2; exact ⟨rfl, hb1.trans (hb2.mono hb1.size)⟩)
    · rw [if_neg (fun h => he h.2)]
      have hne : (q1.toList == s.toList) = false := by
        rw [beq_eq_false_iff_ne, Lib.toList_data, Lib.toList_data]
        exact fun h => he (ByteArray.ext (Array.ext' h))
      go_enter Tryd.func28, Tryd.ntmps28
      go_wp2_with (first
        | (go_at_call 52; refine (hcut _ hm).mono ?_; rintro e w1 ⟨⟨x, b, rfl⟩, hb1⟩)
        | (go_at_call 26; refine (hi _ (Lib.tabBelow_of_tabIs htab _ hb1)).mono ?_; rintro e w2 ⟨rfl, hb2⟩))
      all_goals first | (exfalso; simp_all; done) | (go_ret2; exact ⟨rfl, hb1.trans (hb2.mono hb1.size)⟩)
theorem pos_of_cell {w : World} {v : Value} (h : w.cell? ⟨0, 0, none⟩ = some v) : 0 < w.heap.size := by
  rcases Nat.eq_zero_or_pos w.heap.size with h0 | h0
  · have : w.heap[0]? = none := Array.getElem?_eq_none (by omega)
    simp [World.cell?, this] at h
  · exact h0
theorem lawVerifyChecksum (s : ByteArray) (w : World) (m : Int) (hm : w.cell? ⟨0, 0, none⟩ = some (.int .i64 m)) (htab : Lib.TabIs Tryd.prog w "internal/strconv.uint64pow10" .u64 Lib.pow10Tab) :
    Calls Tryd.prog 9 #[.string s] w fun e w' => e = .returned (.bool true) ∧ Below w.heap.size w w' := by
  have h0 := pos_of_cell hm
  by_cases h : s.size ≤ 1048576
  · have hs := spec_verify s
    have hi := implVerify s h m
    generalize verRes s = q at hs hi
    obtain ⟨q1, q2⟩ := q
    go_enter Tryd.func9, Tryd.ntmps9
    go_wp2_with (first
      | (go_at_call 34; refine (S.spec_VerifyChecksum.calls 5000 s _ _ _ hs).mono ?_; rintro e w1 ⟨rfl, hb1⟩)
      | (go_at_call 28; refine (hi _ ((hb1.cell (p := ⟨0, 0, none⟩) h0).trans hm) (Lib.tabBelow_of_tabIs htab _ hb1)).mono ?_; rintro e w2 ⟨rfl, hb2⟩))
    all_goals first | (exfalso; simp at *; omega) | (go_ret; exact ⟨rfl, hb1.trans (hb2.mono hb1.size)⟩)
  · go_enter Tryd.func9, Tryd.ntmps9
    go_wp2_with (fail)
    all_goals first | (exfalso; simp at *; omega) | (go_ret; exact ⟨rfl, Below.refl _ _⟩)
end Go.Proofs.YtnbcmjoimenhjaaDoor
