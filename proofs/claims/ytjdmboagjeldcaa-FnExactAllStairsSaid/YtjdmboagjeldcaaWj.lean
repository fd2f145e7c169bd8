/- impl.box.stairs' closure: the whole search below a list, by induction on what is left. No condition beyond the bounds. -/
import Derived.Test.YtjdmboagjeldcaaWg
import Derived.Test.YtjdmboagjeldcaaWge
namespace Go.Proofs.Ytjdmboagjeldcaa
open Go.RowKit S Go.Proofs.YtjdmboagjeldcaaW.PrintWords Go.Proofs.YtjdmboagjeldcaaW.PrintLast Go.Proofs.YtjdmboagjeldcaaW.PrintMore
/-- the lists out after j of the lower calls -/
def outF (y z d : Nat) (l : List Int) (L : List (List Int)) (j : Nat) : List (List Int) := L ++ (List.range j).flatMap fun (h : Nat) => allL y z d (l ++ [(h : Int)])
theorem outF_zero (y z d : Nat) (l : List Int) (L : List (List Int)) : outF y z d l L 0 = L := by simp [outF]
theorem outF_succ (y z d : Nat) (l : List Int) (L : List (List Int)) (j : Nat) : outF y z d l L (j + 1) = outF y z d l L j ++ allL y z d (l ++ [(j : Int)]) := by
  unfold outF
  rw [List.range_succ, List.flatMap_append, List.append_assoc]; simp
theorem outF_all {y z d m : Nat} {l : List Int} (L : List (List Int)) (hM : mostOf y z l = (m : Int)) : outF y z d l L (m + 1) = L ++ allL y z (d + 1) l := by
  unfold outF
  rw [allL, hM, Int.toNat_natCast]
theorem outF_le (y z d : Nat) (l : List Int) (L : List (List Int)) (j : Nat) : ∀ n, (outF y z d l L j).length ≤ (outF y z d l L (j + n)).length
  | 0 => Nat.le_refl _
  | n + 1 => Nat.le_trans (outF_le y z d l L j n) (by rw [← Nat.add_assoc, outF_succ, List.length_append]; omega)
theorem walk35 (W0 : World) (bb bo bf x y z : Nat) (hx : x ≤ 4) (hy0 : 0 < y) (hy : y ≤ 4) (hz : z ≤ 4) (hp : 0 < x * y) (hbo0 : W0.heap.size ≤ bo) : ∀ (d : Nat) (l : List Int) (Z : Nat → Prop) (L : List (List Int)) (w : World) (v : Value), l.length + d = x * y → (∀ t ∈ l, 0 ≤ t ∧ t ≤ 4) → L.length + (allL y z d l).length ≤ 100000 →
    Sm W0 bb bo bf x y z Z L w → OwnL w v l → (∀ k, v.ownBlock = some k → Z k ∧ W0.heap.size ≤ k) →
    Calls Try.prog 35 (a35 bb bo bf v) w (Post35 W0 bb bo bf x y z Z (L ++ allL y z d l) w v l)
  | 0, l, Z, L, w, v, hd, hl, hL, hm, ho, hv => by
    rcases ho with ⟨rfl, rfl⟩ | ⟨g, c, sp, rfl, hh, hc⟩
    · simp at hd; omega
    · have ho : OwnL w (.slice (some ⟨g, 0, none⟩) l.length c) l := Or.inr ⟨g, c, sp, rfl, hh, hc⟩
      refine (leaf35 W0 w bb bo bf x y z Z L g c l hx hy (by omega) (by omega) hbo0 hm.nbo (by omega) hm ho).mono ?_
      rintro e w' ⟨rfl, hm', hk, hs⟩
      exact ⟨rfl, hm', Or.inr ⟨g, c, sp, rfl, (hk g (hv g rfl).1).trans hh, hc⟩, fun k hz _ => hk k hz, hs⟩
  | d + 1, l, Z, L, w, v, hd, hl, hL, hm, ho, hv => by
    have hb := most_b (y := y) hz hl
    obtain ⟨m, hM⟩ : ∃ m : Nat, mostOf y z l = (m : Int) := ⟨(mostOf y z l).toNat, by omega⟩
    have hm4 : (m : Int) ≤ 4 := by omega
    have hall := outF_all (d := d) L hM
    have low : Low W0 bb bo bf x y z m l (outF y z d l L) := by
      intro j hj Z' W g' c' hm' ho' hzg hg
      rw [outF_succ]
      have h1 := outF_le y z d l L (j + 1) (m - j)
      rw [show j + 1 + (m - j) = m + 1 by omega, hall, outF_succ] at h1
      simp only [List.length_append] at h1
      exact walk35 W0 bb bo bf x y z hx hy0 hy hz hp hbo0 d (l ++ [(j : Int)]) Z' (outF y z d l L j) W _ (by rw [List.length_append, List.length_singleton]; omega) (snoc_b hl j (by omega)) (by omega) hm' ho' (fun k hk => by
        injection hk with hk
        subst hk; exact ⟨hzg, hg⟩)
    rw [← hall]
    have hm0 : Sm W0 bb bo bf x y z Z (outF y z d l L 0) w := by rw [outF_zero]; exact hm
    have hl1 : l.length < x * y := by omega
    rcases ho with ⟨rfl, rfl⟩ | ⟨g, c, sp, rfl, hh, hc⟩
    · exact inner35e W0 w bb bo bf x y z m Z _ 0 [] hx hy0 hy hl1 hM hm4 hm0 (Or.inl ⟨rfl, rfl⟩) hv low (by simp; omega) (by simp)
    · have ho : OwnL w (.slice (some ⟨g, 0, none⟩) l.length c) l := Or.inr ⟨g, c, sp, rfl, hh, hc⟩
      by_cases h1 : y ≤ l.length <;> by_cases h2 : 0 < l.length % y
      · exact inner35a W0 w bb bo bf x y z m Z _ g c l hx hy0 hy hl1 hM hm4 hm0 ho hv low h1 h2
      · exact inner35b W0 w bb bo bf x y z m Z _ g c l hx hy0 hy hl1 hM hm4 hm0 ho hv low h1 h2
      · exact inner35c W0 w bb bo bf x y z m Z _ g c l hx hy0 hy hl1 hM hm4 hm0 ho hv low h1 h2
      · exact inner35d W0 w bb bo bf x y z m Z _ g c l hx hy0 hy hl1 hM hm4 hm0 ho hv low h1 h2
end Go.Proofs.Ytjdmboagjeldcaa
