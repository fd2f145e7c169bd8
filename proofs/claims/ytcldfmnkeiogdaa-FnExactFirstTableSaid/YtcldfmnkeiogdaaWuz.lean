/- The walk of impl.tables' own search (a closure that calls itself), with the visitor 67. No condition. -/
import Derived.Test.YtcldfmnkeiogdaaNm
import Derived.Test.YtcldfmnkeiogdaaShA
import Derived.WalkKit
import Derived.BigCall
import Derived.LoopTactic
import Derived.Lib.Hide
import Derived.Deep.RegionHeld3
import Derived.Deep.RegionWith
import Derived.Deep.QuietTactic
namespace Go.Proofs.Ytcldfmnkeiogdaa
open Go.RowKit S Go.Proofs.YtcldfmnkeiogdaaW.PrintWords Go.Proofs.YtcldfmnkeiogdaaW.PrintLast Go.Proofs.YtcldfmnkeiogdaaW.PrintMore
section
variable {σ : Type} (step : σ → Int → σ × Bool) (X : σ → World → Prop) (W0 : World) (ab c : Nat) (rows : List Int) (n cl br bn bl bv bf g bc : Nat)
  (hX0 : ∀ s w w', w'.heap = w.heap → X s w → X s w') (hXg : ∀ s w w', (∀ k, k ≠ g → w'.heap[k]? = w.heap[k]?) → X s w → X s w')
  (hne : br ≠ g ∧ bn ≠ g ∧ bl ≠ g ∧ bv ≠ g ∧ bf ≠ g) (hg0 : W0.heap.size ≤ g) (hn0 : 0 < n) (hn4 : n ≤ 4)
include hn0 hn4

theorem early67 (i : Nat) (left : List Int) (row mask : Int) (s : σ) (w : World) (hi : Int.tmod (i : Int) (n : Int) = 0) (hr : 0 < row) (hm : Mem X W0 (some ⟨ab, 0, none⟩) c rows n cl br bn bl bv bf g (.func (.func 67) #[] #[.pointer (some ⟨bc, 0, none⟩)]) (.func (.func 81) #[] #[.pointer (some ⟨bn, 0, none⟩), .pointer (some ⟨br, 0, none⟩), .pointer (some ⟨bl, 0, none⟩), .pointer (some ⟨bv, 0, none⟩), .pointer (some ⟨bf, 0, none⟩)]) (left) (s) w) :
    Calls Try.prog 81 #[.int .i64 (i : Int), .int .i64 (row), .int .u64 (mask), .pointer (some ⟨bn, 0, none⟩), .pointer (some ⟨br, 0, none⟩), .pointer (some ⟨bl, 0, none⟩), .pointer (some ⟨bv, 0, none⟩), .pointer (some ⟨bf, 0, none⟩)] w fun e w' => e = .returned (.bool true) ∧ Mem X W0 (some ⟨ab, 0, none⟩) c rows n cl br bn bl bv bf g (.func (.func 67) #[] #[.pointer (some ⟨bc, 0, none⟩)]) (.func (.func 81) #[] #[.pointer (some ⟨bn, 0, none⟩), .pointer (some ⟨br, 0, none⟩), .pointer (some ⟨bl, 0, none⟩), .pointer (some ⟨bv, 0, none⟩), .pointer (some ⟨bf, 0, none⟩)]) (left) (s) w' := by
  obtain ⟨c1, c2, c3, c4, c5⟩ := hm.cr
  have hnz : (n : Int) ≠ 0 := by omega
  have hnN0 : n ≠ 0 := by omega
  have HM := Lib.hid hm
  clear hm
  go_enter Try.func81, Try.ntmps81
  go_wp2_with (fail)
  all_goals (go_ret; exact ⟨rfl, HM.out⟩)
theorem atMax67 (left : List Int) (s : σ) (w : World) (hm : Mem X W0 (some ⟨ab, 0, none⟩) c rows n cl br bn bl bv bf g (.func (.func 67) #[] #[.pointer (some ⟨bc, 0, none⟩)]) (.func (.func 81) #[] #[.pointer (some ⟨bn, 0, none⟩), .pointer (some ⟨br, 0, none⟩), .pointer (some ⟨bl, 0, none⟩), .pointer (some ⟨bv, 0, none⟩), .pointer (some ⟨bf, 0, none⟩)]) (left) (s) w) : Calls Try.prog 82 #[.slice (some ⟨g, 0, none⟩) n cl] w fun e w' => e = .returned (.int .i64 (Lib.maxOf left)) ∧ w' = w := by
  have h := Any.slices_Max_int Try.lays113 g 0 n cl left w hn0 (by rw [hm.len]; exact Nat.le_refl _) (by omega) (fun j hj => by
    have := (hm.cg j left[j] (List.getElem?_eq_getElem hj)).1
    rw [Nat.zero_add, this, List.getD_eq_getElem?_getD, List.getElem?_eq_getElem hj]
    rfl)
  rw [List.take_of_length_le (by rw [hm.len]; exact Nat.le_refl _)] at h
  exact h
theorem done67 (i N : Nat) (left : List Int) (mask : Int) (s s1 : σ) (b1 : Bool) (w : World) (hi : Int.tmod (i : Int) (n : Int) = 0) (hN : (rows.length : Int) * (n : Int) = (N : Int)) (hNb : (N : Int) ≤ 100) (hiN : i = N)
    (hm : Mem X W0 (some ⟨ab, 0, none⟩) c rows n cl br bn bl bv bf g (.func (.func 67) #[] #[.pointer (some ⟨bc, 0, none⟩)]) (.func (.func 81) #[] #[.pointer (some ⟨bn, 0, none⟩), .pointer (some ⟨br, 0, none⟩), .pointer (some ⟨bl, 0, none⟩), .pointer (some ⟨bv, 0, none⟩), .pointer (some ⟨bf, 0, none⟩)]) (left) (s) w) (hV : Calls Try.prog 67 #[.int .u64 mask, .pointer (some ⟨bc, 0, none⟩)] w fun e w' => e = .returned (.bool b1) ∧ Mem X W0 (some ⟨ab, 0, none⟩) c rows n cl br bn bl bv bf g (.func (.func 67) #[] #[.pointer (some ⟨bc, 0, none⟩)]) (.func (.func 81) #[] #[.pointer (some ⟨bn, 0, none⟩), .pointer (some ⟨br, 0, none⟩), .pointer (some ⟨bl, 0, none⟩), .pointer (some ⟨bv, 0, none⟩), .pointer (some ⟨bf, 0, none⟩)]) (left) (s1) w') :
    Calls Try.prog 81 #[.int .i64 (i : Int), .int .i64 (0), .int .u64 (mask), .pointer (some ⟨bn, 0, none⟩), .pointer (some ⟨br, 0, none⟩), .pointer (some ⟨bl, 0, none⟩), .pointer (some ⟨bv, 0, none⟩), .pointer (some ⟨bf, 0, none⟩)] w fun e w' => (e = .returned (.bool (if 0 < Lib.maxOf left then true else b1)) ∧ Mem X W0 (some ⟨ab, 0, none⟩) c rows n cl br bn bl bv bf g (.func (.func 67) #[] #[.pointer (some ⟨bc, 0, none⟩)]) (.func (.func 81) #[] #[.pointer (some ⟨bn, 0, none⟩), .pointer (some ⟨br, 0, none⟩), .pointer (some ⟨bl, 0, none⟩), .pointer (some ⟨bv, 0, none⟩), .pointer (some ⟨bf, 0, none⟩)]) (left) (if 0 < Lib.maxOf left then s else s1) w') := by
  obtain ⟨c1, c2, c3, c4, c5⟩ := hm.cr
  have hmx := atMax67 X W0 ab c rows n cl br bn bl bv bf g bc hn0 hn4 left s w hm
  have hnz : (n : Int) ≠ 0 := by omega
  have hnN0 : n ≠ 0 := by omega
  have hiN2 : ((i : Int) == (N : Int)) = true := by rw [hiN]; exact beq_self_eq_true _
  have HM := Lib.hid hm
  clear hm hiN
  have he : (if 0 < Lib.maxOf left then true else b1) = (decide (0 < Lib.maxOf left) || b1) := by by_cases h : 0 < Lib.maxOf left <;> simp [h]
  rw [he]
  by_cases hmax : 0 < Lib.maxOf left
  · rw [if_pos hmax]
    clear hV
    go_enter Try.func81, Try.ntmps81
    go_wp2_with (go_at_call 82; refine hmx.mono ?_; rintro e w1 ⟨rfl, rfl⟩)
    all_goals (go_ret; first | exact ⟨rfl, HM.out⟩ | exact ⟨by simp [hmax], HM.out⟩)
  · rw [if_neg hmax]
    go_enter Try.func81, Try.ntmps81
    go_wp2_with (first | (go_at_call 82; refine hmx.mono ?_; rintro e w1 ⟨rfl, rfl⟩) | (go_at_call 67; refine hV.mono ?_; rintro e w2 ⟨rfl, hm2⟩))
    all_goals (go_ret; first | exact ⟨rfl, hm2⟩ | exact ⟨by simp [hmax], hm2⟩)
end
end Go.Proofs.Ytcldfmnkeiogdaa
