/- One byte changed by xor, and the text made of the changed row. No condition. -/
import Derived.Test.YtnbcmjoimenhjaaDoorNl
import Derived.Test.YtnbcmjoimenhjaaDoorNf
import Derived.Laws.BytesArg
import Derived.Lib.ConvBytes
import Derived.Below
namespace Go.Proofs.YtnbcmjoimenhjaaDoor
open Go Go.RowKit
theorem xor_byte (z : UInt8) (d : Int) (h0 : 1 ≤ d) (h1 : d ≤ 255) : ∃ v : UInt8, Go.bits .xor .u8 (z.toNat : Int) d = (v.toNat : Int) ∧ v ≠ z := by
  have hx : Go.bits .xor .u8 (z.toNat : Int) d = IntKind.u8.wrap ((BitVec.ofInt 8 (z.toNat : Int) ^^^ BitVec.ofInt 8 d).toNat : Int) := rfl
  have hz : BitVec.ofInt 8 (z.toNat : Int) = z.toBitVec := by
    apply BitVec.eq_of_toNat_eq
    have := z.toNat_lt
    simp
  rw [hx, hz]
  refine ⟨UInt8.ofBitVec (z.toBitVec ^^^ BitVec.ofInt 8 d), ?_, ?_⟩
  · have e : (UInt8.ofBitVec (z.toBitVec ^^^ BitVec.ofInt 8 d)).toNat = (z.toBitVec ^^^ BitVec.ofInt 8 d).toNat := rfl
    rw [e]
    have hlt := (z.toBitVec ^^^ BitVec.ofInt 8 d).isLt
    generalize (z.toBitVec ^^^ BitVec.ofInt 8 d).toNat = n at hlt
    simp [IntKind.wrap, IntKind.bits, IntKind.signed]
    omega
  · intro h
    have h2 : z.toBitVec ^^^ BitVec.ofInt 8 d = z.toBitVec := congrArg UInt8.toBitVec h
    have h3 : BitVec.ofInt 8 d = 0 := by
      have := congrArg (fun t => z.toBitVec ^^^ t) h2
      simpa [← BitVec.xor_assoc] using this
    have h4 := congrArg BitVec.toNat h3
    simp [BitVec.toNat_ofInt] at h4
    omega
theorem wrap_byte (v : Int) (h0 : 0 ≤ v) (_h1 : v ≤ 255) : ∃ d, IntKind.u8.wrap (IntKind.i64.wrap (1 + v.tmod 255)) = d ∧ 1 ≤ d ∧ d ≤ 255 := by
  have a := Int.tmod_nonneg 255 h0
  have b := Int.tmod_lt_of_pos v (show (0 : Int) < 255 by decide)
  generalize v.tmod 255 = t at a b
  refine ⟨1 + t, ?_, by omega, by omega⟩
  simp [IntKind.wrap, IntKind.bits, IntKind.signed]
  omega
theorem nums_bytes (l : List UInt8) : strOfNums (l.map fun x => (x.toNat : Int)) = ofL l := by
  unfold strOfNums ofL
  rw [List.map_map]
  have : ((fun n : Int => UInt8.ofNat n.toNat) ∘ fun x : UInt8 => (x.toNat : Int)) = id := by
    funext x
    simp
  rw [this, List.map_id]
/-- the changed row read back as a text -/
theorem back_text (w14 : World) (B : Nat) (y : ByteArray) (cap K : Nat) (v : UInt8) (hK : K < y.size) (hfar : ∀ j, j < y.size → w14.cell? ⟨B, j, none⟩ = some (.int .u8 (y.data.toList.getD j 0).toNat)) :
    (convert 22 9 (.slice (some ⟨B, 0, none⟩) y.size cap)).run Tryd.prog (w14.setCell ⟨B, K, none⟩ (.int .u8 (v.toNat : Int))) = .ok (.string (ofL (y.data.toList.set K v))) (w14.setCell ⟨B, K, none⟩ (.int .u8 (v.toNat : Int))) := by
  have h := run_convert_bytes_arg (P := Tryd.prog) (w14.setCell ⟨B, K, none⟩ (.int .u8 (v.toNat : Int))) 22 5 Tryd.underlying22 Tryd.underlying5 B 0 y.size cap ((y.data.toList.set K v).map fun x => (x.toNat : Int)) (by rw [List.length_map, List.length_set]; exact size_len y ▸ rfl) (fun i hi => by
    rw [Nat.zero_add]
    have hil : i < y.data.toList.length := by rw [← size_len]; exact hi
    have e : ((y.data.toList.set K v).map fun x => (x.toNat : Int)).getD i 0 = ((y.data.toList.set K v).getD i 0).toNat := by
      rw [List.getD_eq_getElem?_getD, List.getD_eq_getElem?_getD, List.getElem?_map, List.getElem?_eq_getElem (by rw [List.length_set]; exact hil)]
      rfl
    rw [e]
    by_cases hiK : i = K
    · subst hiK
      rw [World.cell?_setCell_same _ _ _ (hfar i hi), List.getD_eq_getElem?_getD, List.getElem?_set_self hil]
      rfl
    · rw [World.cell?_setCell_other _ _ _ _ (by intro h; injection h with _ h _; exact hiK h.symm), hfar i hi, List.getD_eq_getElem?_getD, List.getD_eq_getElem?_getD, List.getElem?_set_ne (by omega)]) 9 Tryd.underlying9
  rw [nums_bytes] at h
  exact h
end Go.Proofs.YtnbcmjoimenhjaaDoor
