/- The sums behind single laws, fifth part: heaps out of heights. No condition. -/
import Derived.Test.YtbheeobnghlckaaAmQ4
set_option linter.unusedVariables false
set_option linter.unusedSimpArgs false
namespace Go.Am
open Go.RowKit
theorem flat_lt {X Y Z : Nat} {a b c : Int} (h : has3 (X : Int) (Y : Int) (Z : Int) a b c = true) : 0 ≤ a * (Y : Int) ∧ 0 ≤ a * (Y : Int) + b ∧ a * (Y : Int) + b < ((X * Y : Nat) : Int) ∧ (a * (Y : Int) + b).toNat < X * Y := by
  have h3 := (has3_iff (c := A3.mk a b c)).1 h
  simp only at h3
  obtain ⟨A, rfl⟩ := Int.eq_ofNat_of_zero_le h3.1.1
  obtain ⟨B, rfl⟩ := Int.eq_ofNat_of_zero_le h3.2.1.1
  have h1 : (A + 1) * Y ≤ X * Y := Nat.mul_le_mul_right Y (by omega)
  rw [Nat.add_mul, Nat.one_mul] at h1
  have e : ((A : Nat) : Int) * ((Y : Nat) : Int) = ((A * Y : Nat) : Int) := (Int.natCast_mul A Y).symm
  rw [e]; omega
def ltN (Y : Nat) (N : List Int) (d : A3) : Bool := decide (d.z < N.getD (d.x * (Y : Int) + d.y).toNat 0)
def stackS (X Y Z : Nat) (N : List Int) : Nat := thS (X * Y * Z) fun i => ltN Y N (cellOf Y Z i)
theorem stackS_lt {X Y Z : Nat} (N : List Int) (h : X * Y * Z ≤ 64) : stackS X Y Z N < 18446744073709551616 := thS_lt _ _ h
theorem stack_end {X Y Z : Nat} {N : List Int} : (allOf X Y Z).filter (ltN Y N) = listOf X Y Z (stackS X Y Z N) := by
  unfold stackS
  rw [list_thS]
  unfold allOf fl
  rw [List.filter_map]; rfl
theorem ltN_t {Y : Nat} {N : List Int} {d : A3} (h : d.z < N.getD (d.x * (Y : Int) + d.y).toNat 0) : ltN Y N d = true := by simpa [ltN] using h
theorem ltN_f {Y : Nat} {N : List Int} {d : A3} (h : N.getD (d.x * (Y : Int) + d.y).toNat 0 ≤ d.z) : ltN Y N d = false := decide_eq_false (by omega)
theorem has_cellOf {X Y Z i : Nat} (hs : Sides X Y Z) (h : i < X * Y * Z) : has3 (X : Int) (Y : Int) (Z : Int) ((i / Z / Y : Nat) : Int) ((i / Z % Y : Nat) : Int) ((i % Z : Nat) : Int) = true := by
  have := (HeapL.all X Y Z).mem_has hs (c := cellOf Y Z i) (List.mem_map.2 ⟨i, List.mem_range.2 h, rfl⟩)
  exact this
theorem allB_at {N : List Int} {lo hi : Int} {i : Nat} (h : allB N lo hi = true) (hl : i < N.length) : inR (N.getD i 0) lo hi = true := by
  have := List.all_eq_true.1 h _ (List.getElem_mem hl)
  rwa [getI_lt hl]
/-! ### the highest cubes -/
def topStep (Y : Nat) (M : List Int) (d : A3) : List Int := M.set (d.x * (Y : Int) + d.y).toNat (mxI (M.getD (d.x * (Y : Int) + d.y).toNat 0) (d.z + 1))
def topT (X Y : Nat) (L : List A3) : Nat → List Int
  | 0 => List.replicate (X * Y) 0
  | i + 1 => topStep Y (topT X Y L i) (L.getD i default)
theorem topT_length (X Y : Nat) (L : List A3) : ∀ i, (topT X Y L i).length = X * Y
  | 0 => by simp [topT]
  | i + 1 => by simp [topT, topStep, topT_length X Y L i]
theorem topT_spec {X Y : Nat} {L : List A3} {M : List Int} {i : Nat} (h : M = topT X Y L i) : M.set ((L.getD i default).x * (Y : Int) + (L.getD i default).y).toNat (mxI (M.getD ((L.getD i default).x * (Y : Int) + (L.getD i default).y).toNat 0) ((L.getD i default).z + 1)) = topT X Y L (i + 1) := by subst h; rfl
theorem topT_impl {X Y : Nat} {L : List A3} {M : List Int} {i : Nat} (h : M = topT X Y L i) : M.set ((L.getD i default).x * (Y : Int) + (L.getD i default).y).toNat (if M.getD ((L.getD i default).x * (Y : Int) + (L.getD i default).y).toNat 0 < (L.getD i default).z + 1 then (L.getD i default).z + 1 else M.getD ((L.getD i default).x * (Y : Int) + (L.getD i default).y).toNat 0) = topT X Y L (i + 1) := by
  rw [← topT_spec h]; congr 1; unfold mxI; repeat' split
  all_goals omega
end Go.Am
