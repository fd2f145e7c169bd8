/- The walk of the law FnExactFormatInt: it answers true for every int, under the table that the row lists. -/
import Derived.Test.YtnbcmjoimenhjaaDoorWa
import Derived.Test.YtnbcmjoimenhjaaDoorNa
namespace Go.Proofs.YtnbcmjoimenhjaaDoor
open Go.RowKit
theorem specFormat_in (n : Int) (h : -999999 ≤ n ∧ n ≤ 999999) : S.spec_FormatInt.f 9 n = some (⟨(Lib.itoa n).toArray⟩, true) := by
  unfold S.spec_FormatInt.f S.spec_l1In.f
  rw [if_pos (show n ≥ -999999 from h.1), num_int n h.1 h.2]
  simp [h.2]
theorem specFormat_out (n : Int) (h : ¬ (-999999 ≤ n ∧ n ≤ 999999)) : S.spec_FormatInt.f 9 n = some (⟨#[]⟩, false) := by
  unfold S.spec_FormatInt.f S.spec_l1In.f
  by_cases hn : n ≥ -999999
  · rw [if_pos hn]
    have : ¬ n ≤ 999999 := fun h' => h ⟨hn, h'⟩
    simp [this]
  · rw [if_neg hn]
    simp
theorem lawFormatInt (n : Int) (w : World) (htab : Lib.TabIs Tryd.prog w "internal/strconv.uint64pow10" .u64 Lib.pow10Tab) :
    Calls Tryd.prog 6 #[.int .i64 n] w fun e w' => e = .returned (.bool true) ∧ Below w.heap.size w w' := by
  by_cases h : -999999 ≤ n ∧ n ≤ 999999
  · go_enter Tryd.func6, Tryd.ntmps6
    go_wp2_with (first
      | (go_at_call 21; refine (S.spec_FormatInt.calls 9 n _ _ _ (specFormat_in n h)).mono ?_; rintro e w1 ⟨rfl, hb1⟩)
      | (go_at_call 20; refine (implFormatInt_in n h.1 h.2 _ (Lib.tabBelow_of_tabIs htab _ hb1)).mono ?_; rintro e w2 ⟨rfl, hb2⟩))
    all_goals go_ret
    all_goals exact ⟨rfl, hb1.trans (hb2.mono hb1.size)⟩
  · go_enter Tryd.func6, Tryd.ntmps6
    go_wp2_with (first
      | (go_at_call 21; refine (S.spec_FormatInt.calls 9 n _ _ _ (specFormat_out n h)).mono ?_; rintro e w1 ⟨rfl, hb1⟩)
      | (go_at_call 20; refine (implFormatInt_out n h _).mono ?_; rintro e w2 ⟨rfl, hb2⟩))
    all_goals go_ret
    all_goals exact ⟨rfl, hb1.trans (hb2.mono hb1.size)⟩
end Go.Proofs.YtnbcmjoimenhjaaDoor
