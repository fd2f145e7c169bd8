/- What impl.FormatInt returns, for every int: the shelf's contract on strconv.Itoa, under the table that the row lists. -/
import Derived.Test.YtnbcmjoimenhjaaDoorShA
import Derived.Test.YtnbcmjoimenhjaaDoorProg
import Derived.WalkKit
import Derived.BigCall
import Derived.Below
import Derived.Lib.AppendIntMem
namespace Go.Proofs.YtnbcmjoimenhjaaDoor
open Go.RowKit
theorem implFormatInt_in (n : Int) (h0 : -999999 ≤ n) (h1 : n ≤ 999999) (w : World) (htab : Lib.TabIs Tryd.prog w "internal/strconv.uint64pow10" .u64 Lib.pow10Tab) :
    Calls Tryd.prog 20 #[.int .i64 n] w fun e w' => e = .returned (.tuple #[.string ⟨(Lib.itoa n).toArray⟩, .bool true]) ∧ Below w.heap.size w w' := by
  go_enter Tryd.func20, Tryd.ntmps20
  go_wp2_with (first
    | (go_at_call 45; refine (Tryd.strconv_Itoa n (by omega) (by omega) _ htab).mono ?_; rintro e w' ⟨rfl, k, os, rfl⟩)
    | go_in)
  all_goals first | (exfalso; simp at *; omega) | (go_ret2; exact ⟨rfl, Lib.below_grow _ _ (Nat.le_refl _) _ _⟩)
theorem implFormatInt_out (n : Int) (h : ¬ (-999999 ≤ n ∧ n ≤ 999999)) (w : World) :
    Calls Tryd.prog 20 #[.int .i64 n] w fun e w' => e = .returned (.tuple #[.string ⟨#[]⟩, .bool false]) ∧ Below w.heap.size w w' := by
  go_enter Tryd.func20, Tryd.ntmps20
  go_wp2
  all_goals first | (exfalso; simp at *; omega) | (go_ret2; exact ⟨rfl, Below.refl _ _⟩)
end Go.Proofs.YtnbcmjoimenhjaaDoor
