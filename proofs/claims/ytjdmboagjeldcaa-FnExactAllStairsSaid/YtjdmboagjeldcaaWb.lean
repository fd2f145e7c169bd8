/- impl.box.valid, walked; which boxes can be listed. No condition. -/
import Derived.Test.YtjdmboagjeldcaaWa
namespace Go.Proofs.Ytjdmboagjeldcaa
open Go.RowKit S Go.Proofs.YtjdmboagjeldcaaW.PrintWords Go.Proofs.YtjdmboagjeldcaaW.PrintLast Go.Proofs.YtjdmboagjeldcaaW.PrintMore
def inB (x : Int) : Bool := decide (1 ≤ x) && decide (x ≤ 4)
theorem in_impl (x : Int) : impl_within.f x 1 4 = some (inB x) := by
  unfold impl_within.f inB
  by_cases h : x ≥ 1
  · rw [if_pos h, decide_eq_true h]; simp
  · rw [if_neg h, decide_eq_false h]; rfl
theorem in_spec (x : Int) : spec_l1In.f x 1 4 = some (inB x) := by
  unfold spec_l1In.f inB
  by_cases h : x ≥ 1
  · rw [if_pos h, decide_eq_true h]; simp
  · rw [if_neg h, decide_eq_false h]; rfl
def validB (x y z : Int) : Bool := inB x && (inB y && inB z)
theorem spec_sides (x y z : Int) : spec_l2Sides.f x y z = some (validB x y z) := by
  unfold spec_l2Sides.f validB
  rw [in_spec, in_spec, in_spec]
  simp only [Option.bind_some]
  cases inB x <;> cases inB y <;> cases inB z <;> rfl
theorem boxValid (x y z : Int) (w : World) :
    Calls Try.prog 33 #[.agg #[.int .i64 x, .int .i64 y, .int .i64 z]] w fun e w' => e = .returned (.bool (validB x y z)) ∧ Below w.heap.size w w' := by
  have hx := in_impl x
  have hy := in_impl y
  have hz := in_impl z
  unfold validB
  generalize inB x = bx at hx ⊢
  generalize inB y = bY at hy ⊢
  generalize inB z = bz at hz ⊢
  have Hx := Lib.hid hx
  have Hy := Lib.hid hy
  have Hz := Lib.hid hz
  clear hx hy hz
  have hb : BoxAt (w.alloc (.cells #[.int .i64 x, .int .i64 y, .int .i64 z] 39)) w.heap.size x y z := by
    have hb : (w.alloc (.cells #[.int .i64 x, .int .i64 y, .int .i64 z] 39)).heap[w.heap.size]? = some (.cells #[.int .i64 x, .int .i64 y, .int .i64 z] 39 (0, 0)) := by simp only [World.alloc]; rw [Array.getElem?_push, if_pos rfl]
    refine ⟨?_, ?_, ?_⟩ <;> (unfold World.cell?; rw [hb]; rfl)
  have hw1 : Below w.heap.size w (w.alloc (.cells #[.int .i64 x, .int .i64 y, .int .i64 z] 39)) := below_alloc (Below.refl _ _) _
  have Hb := Lib.hid hb
  have Hw := Lib.hid hw1
  clear hb hw1
  go_enter Try.func33, Try.ntmps33
  go_wp2_with (go_at_call 24; refine (S.impl_within.calls x 1 4 bx _ Hx.out).mono ?_; rintro e w1 ⟨rfl, hd1⟩; refine Hid.out ?_)
  refine Lib.hid ?_
  have hw1 := Hw.out.trans (hd1.below.mono Hw.out.size)
  have hlt : w.heap.size < (w.alloc (.cells #[.int .i64 x, .int .i64 y, .int .i64 z] 39)).heap.size := by simp only [World.alloc, Array.size_push]; omega
  have c2 := (hd1.below.cell (p := ⟨w.heap.size, 1, none⟩) hlt).trans Hb.out.2.1
  have c3 := (hd1.below.cell (p := ⟨w.heap.size, 2, none⟩) hlt).trans Hb.out.2.2
  have hlt1 : w.heap.size < w1.heap.size := Nat.lt_of_lt_of_le hlt hd1.below.size
  clear hd1 hlt
  cases bx with
  | false =>
    go_wp2_with (fail)
    all_goals (go_ret; exact ⟨rfl, hw1⟩)
  | true =>
    go_wp2_with (go_at_call 24; refine (S.impl_within.calls y 1 4 bY _ Hy.out).mono ?_; rintro e w2 ⟨rfl, hd2⟩; refine Hid.out ?_)
    refine Lib.hid ?_
    have hw2 := hw1.trans (hd2.below.mono hw1.size)
    have d3 := (hd2.below.cell (p := ⟨w.heap.size, 2, none⟩) hlt1).trans c3
    clear hd2 c2 c3 hw1
    cases bY with
    | false =>
      go_wp2_with (fail)
      all_goals (go_ret; exact ⟨rfl, hw2⟩)
    | true =>
      go_wp2_with (go_at_call 24; refine (S.impl_within.calls z 1 4 bz _ Hz.out).mono ?_; rintro e w3 ⟨rfl, hd3⟩)
      all_goals (go_ret; exact ⟨rfl, hw2.trans (hd3.below.mono hw2.size)⟩)
def fewB (x y z : Int) : Bool := validB x y z && decide (countC x.toNat y.toNat z.toNat ≤ 1000)
theorem valid_facts {x y z : Int} (h : validB x y z = true) : ∃ a b c : Nat, x = a ∧ y = b ∧ z = c ∧ 0 < a ∧ a ≤ 4 ∧ 0 < b ∧ b ≤ 4 ∧ 0 < c ∧ c ≤ 4 := by
  unfold validB inB at h
  simp only [Bool.and_eq_true, decide_eq_true_eq] at h
  exact ⟨x.toNat, y.toNat, z.toNat, by omega, by omega, by omega, by omega, by omega, by omega, by omega, by omega, by omega⟩
theorem spec_few (x y z : Int) : spec_l5Few.f 3000 x y z = some (fewB x y z) := by
  cases hv : validB x y z with
  | false =>
    unfold spec_l5Few.f fewB
    rw [spec_sides, hv]; rfl
  | true =>
    obtain ⟨a, b, c, rfl, rfl, rfl, ha0, ha, hb0, hb, hc0, hc⟩ := valid_facts hv
    rw [few_closed ha0 ha hb0 hb hc0 hc]
    unfold fewB
    rw [hv, Bool.true_and, Int.toNat_natCast, Int.toNat_natCast, Int.toNat_natCast]
/-- what AllStairs returns -/
def stairsRes (x y z : Int) : List (List Int) × Bool := if fewB x y z = true then (allL y.toNat z.toNat (x.toNat * y.toNat) [], true) else ([], false)
theorem spec_stairs (x y z : Int) : spec_AllStairs.f 3000 x y z = some (stairsRes x y z) := by
  unfold spec_AllStairs.f stairsRes
  rw [spec_few]
  simp only [Option.bind_some]
  cases hf : fewB x y z with
  | false => rw [if_neg (by simp), if_neg (by simp)]
  | true =>
    have hv : validB x y z = true := by
      unfold fewB at hf
      simp only [Bool.and_eq_true] at hf
      exact hf.1
    obtain ⟨a, b, c, rfl, rfl, rfl, ha0, ha, hb0, hb, hc0, hc⟩ := valid_facts hv
    have hab : a * b ≤ 4 * 4 := Nat.mul_le_mul ha hb
    rw [if_pos rfl, if_pos rfl, spec_all a b c hb0 hb ha hc (a * b) [] 3000 (by simp) (fun v hv => by cases hv) (by omega)]
    rfl
end Go.Proofs.Ytjdmboagjeldcaa
