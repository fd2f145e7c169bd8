/- What the laws mark and hold: a row of rows of the call's own. No condition beyond the bounds. -/
import Derived.Test.YtjdmboagjeldcaaNb
import Derived.Test.YtjdmboagjeldcaaWApart
namespace Go.Proofs.Ytjdmboagjeldcaa
open Go.RowKit S Go.Proofs.YtjdmboagjeldcaaW.PrintWords Go.Proofs.YtjdmboagjeldcaaW.PrintLast Go.Proofs.YtjdmboagjeldcaaW.PrintMore
def curL (a : Nat) (L : List (List Int)) (j : Nat) : List (List Int) := (marksL a L).take j ++ L.drop j
theorem cur_len (a : Nat) (L : List (List Int)) (j : Nat) (h : j ≤ L.length) : (curL a L j).length = L.length := by
  unfold curL; rw [List.length_append, List.length_take, List.length_drop, marks_len]; omega
theorem cur_get (a : Nat) (L : List (List Int)) (j : Nat) (h : j < L.length) : (curL a L j).getD j [] = L[j] := by
  unfold curL
  have ht : ((marksL a L).take j).length = j := by rw [List.length_take, marks_len]; omega
  rw [List.getD_eq_getElem?_getD, List.getElem?_append_right (by omega), ht, Nat.sub_self, List.getElem?_drop, Nat.add_zero, List.getElem?_eq_getElem h]; rfl
theorem cur_step (a : Nat) (L : List (List Int)) (j : Nat) (h : j < L.length) : (curL a L j).set j (cntL (a + totL (L.take j)) (L[j]).length) = curL a L (j + 1) := by
  unfold curL
  have ht : ((marksL a L).take j).length = j := by rw [List.length_take, marks_len]; omega
  have hm : j < (marksL a L).length := by rw [marks_len]; exact h
  have hg := marks_get L a j h
  rw [List.getElem?_eq_getElem hm] at hg
  rw [List.set_append, if_neg (by omega), ht, Nat.sub_self, List.drop_eq_getElem_cons h, List.set_cons_zero, List.take_succ_eq_append_getElem hm, Option.some.inj hg, List.append_assoc]
  rfl
theorem markSS_go (w0 w : World) (g cap : Nat) (L : List (List Int)) (a : Nat) (ha : a + totL L ≤ 1000000) (hl : L.length ≤ 1000) (hr : ∀ r ∈ L, r.length ≤ 1000) (hB : Below w0.heap.size w0 w) (hS : Kd.S (Kd.slice 3 (Kd.int .i64)) 37 w w0.heap.size (fun k => w0.heap.size ≤ k) (.slice (some ⟨g, 0, none⟩) L.length cap) L) :
    Calls Try.prog 8 #[.slice (some ⟨g, 0, none⟩) L.length cap, .int .i64 a] w fun e w' => e = .returned (.int .i64 ((a + totL L : Nat) : Int)) ∧ Kd.S (Kd.slice 3 (Kd.int .i64)) 37 w' w0.heap.size (fun k => w0.heap.size ≤ k) (.slice (some ⟨g, 0, none⟩) L.length cap) (marksL a L) ∧ Below w0.heap.size w0 w' := by
  have hc0 : curL a L 0 = L := by unfold curL; simp
  have hcn : curL a L L.length = marksL a L := by unfold curL; rw [List.take_of_length_le (by rw [marks_len]; exact Nat.le_refl _), List.drop_of_length_le (Nat.le_refl _), List.append_nil]
  have Hr := Lib.hid hr
  have Hcn := Lib.hid hcn
  have HS := Lib.hid hS
  have HB := Lib.hid hB
  have Hc0 := Lib.hid hc0
  have Ha := Lib.hid ha
  clear hr hcn hS hB hc0 ha
  go_enter Try.func8, Try.ntmps8
  go_wp2_with (fail)
  go_loopw [5, 1] (fun i m wr => ∃ j : Nat, j ≤ L.length ∧ i = .int .i64 j ∧ m = .int .i64 ((a + totL (L.take j) : Nat) : Int) ∧ Kd.S (Kd.slice 3 (Kd.int .i64)) 37 wr w0.heap.size (fun k => w0.heap.size ≤ k) (.slice (some ⟨g, 0, none⟩) L.length cap) (curL a L j) ∧ Below w0.heap.size w0 wr) (fun i _ _ => L.length - (intOf i).toNat)
  case atStart => exact ⟨0, Nat.zero_le _, rfl, by simp [totL], by rw [Hc0.out]; exact HS.out, HB.out⟩
  case round =>
    obtain ⟨j, hj, rfl, rfl, hS, hB⟩ := hrel
    by_cases hjl : j < L.length
    · have hjl2 : (j : Int) < (L.length : Int) := by omega
      have hj0 : (0 : Int) ≤ (j : Int) := by omega
      obtain ⟨oki, cs, h1, h2, h3, h4, hH⟩ := Kd.S_lend hS ([] : List Int) (j : Int) (by omega) (by omega)
      rw [Int.toNat_natCast, cur_get a L j hjl] at h2
      obtain ⟨vi, rfl, hRi⟩ := h2
      obtain ⟨Ai, ci, rfl⟩ := Kd.R_slice hRi
      have hcell : wr.cell? ⟨g, j, none⟩ = some (.slice Ai (L[j]).length ci) := by
        have := h3 0 _ rfl
        rw [Int.toNat_natCast] at this
        have e : j * (Kd.slice 3 (Kd.int .i64)).sz + 0 = j := by show j * 1 + 0 = j; omega
        rw [e] at this
        exact this
      have hts := tot_snoc L j hjl
      have htl := tot_le L (j + 1)
      have hrl := Hr.out _ (List.getElem_mem hjl)
      have hal := Ha.out
      have hmk := mark_eq L[j] (a + totL (L.take j)) 2000 (by omega) (by omega)
      have hst := cur_step a L j hjl
      generalize L[j] = r at hRi hcell hts hrl hmk hst hH
      have hcall := S.laws_markIntS.calls 2000 oki (.slice Ai r.length ci) r _ _ _ w0 wr hB hRi hmk
      have Hts := Lib.hid hts
      have Htl := Lib.hid htl
      have Hst := Lib.hid hst
      have Hal := Lib.hid hal
      have HH := Lib.hid hH
      have H4 := Lib.hid h4
      have HBw := Lib.hid hB
      clear hts htl hst hal hH h4 h3 h1 hRi hS hmk hB
      go_wp2_with (go_at_call 19; refine hcall.mono ?_; rintro e w2 ⟨rfl, hR2, hB2, hK2⟩; refine Hid.out ?_)
      refine Lib.hid ?_
      go_wp2_with (fail)
      have hsb := HBw.out.size
      have hH2 := Kd.H_step (Kd.H_widen HH.out) (w1 := w2) (fun k _ hn hlt => hK2.2 k hlt (fun h => hn (Or.inl h)))
      have hS2 := Kd.H_back hH2 (okp := fun k => oki k ∨ wr.heap.size ≤ k) (x' := cntL (a + totL (L.take j)) r.length) ⟨_, rfl, hR2⟩ (fun k hk => Or.elim hk Or.inl (fun h => Or.inr ⟨by omega, h⟩))
      rw [Int.toNat_natCast, Hst.out] at hS2
      refine ⟨⟨j + 1, by omega, by go_num, ?_, hS2, hB2⟩, ?_⟩
      · rw [Hts.out]; congr 1; omega
      · simp [intOf]; omega
    · have hjl2 : ¬ (j : Int) < (L.length : Int) := by omega
      obtain rfl : j = L.length := by omega
      rw [List.take_length, Hcn.out] at *
      go_wp2_with (fail)
      all_goals (go_ret; exact ⟨rfl, hS, hB⟩)
theorem markSS (w0 w : World) (A : Option Addr) (n cap : Nat) (L : List (List Int)) (a : Nat) (ha : a + totL L ≤ 1000000) (hl : L.length ≤ 1000) (hr : ∀ r ∈ L, r.length ≤ 1000) (hB : Below w0.heap.size w0 w) (hS : Kd.S (Kd.slice 3 (Kd.int .i64)) 37 w w0.heap.size (fun k => w0.heap.size ≤ k) (.slice A n cap) L) :
    Calls Try.prog 8 #[.slice A n cap, .int .i64 a] w fun e w' => e = .returned (.int .i64 ((a + totL L : Nat) : Int)) ∧ Kd.S (Kd.slice 3 (Kd.int .i64)) 37 w' w0.heap.size (fun k => w0.heap.size ≤ k) (.slice A n cap) (marksL a L) ∧ Below w0.heap.size w0 w' := by
  obtain ⟨hn, _, _⟩ := Kd.S_reads' hS
  subst hn
  by_cases hp : 0 < L.length
  · obtain ⟨g, c2, hv, _⟩ := Kd.S_form hS hp
    injection hv with h1 h2 h3
    subst h1
    exact markSS_go w0 w g cap L a ha hl hr hB hS
  · have hL : L = [] := List.length_eq_zero_iff.1 (by omega)
    subst hL
    have hz : a + totL [] = a := by simp [totL]
    rw [hz]
    have HS := Lib.hid hS
    clear hS hz ha hr hl
    have hlen : ([] : List (List Int)).length = 0 := rfl
    rw [hlen] at HS ⊢
    go_enter Try.func8, Try.ntmps8
    go_wp2_with (fail)
    go_loopw [5, 1] (fun i m wr => i = .int .i64 0 ∧ m = .int .i64 (a : Int) ∧ wr = w) (fun _ _ _ => 0)
    case atStart => exact ⟨rfl, rfl, rfl⟩
    case round =>
      obtain ⟨rfl, rfl, rfl⟩ := hrel
      go_wp2_with (fail)
      all_goals (go_ret; exact ⟨rfl, HS.out, hB⟩)
end Go.Proofs.Ytjdmboagjeldcaa
