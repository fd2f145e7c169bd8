/- What impl.SplitString returns, for every two strings, and the law's walk. -/
import Derived.Test.YtnbcmjoimenhjaaDoorNe
import Derived.Test.YtnbcmjoimenhjaaDoorShC
import Derived.Lib.Hide
namespace Go.Proofs.YtnbcmjoimenhjaaDoor
open Go.RowKit S Go.Proofs.YtnbcmjoimenhjaaDoorW.PrintWords Go.Proofs.YtnbcmjoimenhjaaDoorW.PrintLast Go.Proofs.YtnbcmjoimenhjaaDoorW.PrintMore
theorem pcs_count (c : UInt8) : ∀ (l cur : List UInt8), (pcs c cur l).length = l.count c + 1
  | [], cur => by simp [pcs]
  | b :: r, cur => by
    rw [pcs]
    by_cases h : b = c
    · subst h
      rw [if_pos rfl, List.length_cons, pcs_count b r [], List.count_cons_self]
    · rw [if_neg h, pcs_count c r _, List.count_cons_of_ne h]
theorem split_call (s : ByteArray) (c : UInt8) (hs : s.size ≤ 4000) (m : Int) (w : World) (hm : w.cell? ⟨0, 0, none⟩ = some (.int .i64 m)) :
    Calls Tryd.prog 37 #[.string s, .string ⟨#[c]⟩] w fun e w' => ∃ v, e = .returned v ∧ Kd.R Kd.string 9 w' w.heap.size (fun _ => True) v (partsOf s c) ∧ Below w.heap.size w w' := by
  refine (Any.strings_Split { Tryd.laysM146 with } Tryd.laysM146.i9 s ⟨#[c]⟩ m w (by omega) hm (Nat.le_refl 1)).mono ?_
  rintro e w' ⟨rfl, rfl⟩
  rw [lib_split]
  have hlen : (partsOf s c).length = Lib.countB s ⟨#[c]⟩ + 1 := by
    have hc : Lib.countB s ⟨#[c]⟩ = s.data.toList.count c := Lib.count_one c s.data.toList
    unfold partsOf
    rw [List.length_map, pcs_count, hc]
  have hle : s.data.toList.count c ≤ s.data.toList.length := List.count_le_length
  rw [← size_len] at hle
  have hc : Lib.countB s ⟨#[c]⟩ = s.data.toList.count c := Lib.count_one c s.data.toList
  refine ⟨_, rfl, Kd.R_of_own ⟨by simp [encs], Or.inr ⟨w.heap.size, Lib.countB s ⟨#[c]⟩ + 1, ((partsOf s c).map Value.string).toArray, by rw [hlen], Nat.le_refl _, ?_, by omega, ?_, ?_, ?_⟩⟩ (fun _ _ => trivial), below_alloc (Below.refl _ _) _⟩
  · simp only [World.alloc]; rw [Array.getElem?_push, if_pos rfl]; rfl
  · unfold maxLen; omega
  · simp [hlen]
  · simp only [encs, Nat.mul_one]; exact List.take_of_length_le (by simp)
theorem one_byte (sep : ByteArray) (h : sep.size = 1) : sep = ⟨#[sep.data.toList.headD 0]⟩ := by
  have hl : sep.data.toList.length = 1 := by rw [← size_len]; exact h
  cases hd : sep.data.toList with
  | nil => rw [hd] at hl; simp at hl
  | cons c r =>
    rw [hd] at hl
    have : r = [] := by cases r with | nil => rfl | cons => simp at hl
    subst this
    apply ByteArray.ext
    apply Array.ext'
    rw [hd]; rfl
theorem implSplit (s sep : ByteArray) (m : Int) (w : World) (hm : w.cell? ⟨0, 0, none⟩ = some (.int .i64 m)) :
    Calls Tryd.prog 12 #[.string s, .string sep] w fun e w' => ∃ v, e = .returned (.tuple #[v, .bool (splitRes s sep).2]) ∧ Kd.R Kd.string 9 w' w.heap.size (fun _ => True) v (splitRes s sep).1 ∧ Below w.heap.size w w' := by
  unfold splitRes
  by_cases h1 : sep.size = 1
  · by_cases h2 : s.size ≤ 4000
    · rw [if_pos ⟨h1, h2⟩]
      have hc := split_call s (sep.data.toList.headD 0) h2 m
      have hs1 := one_byte sep h1
      rw [← hs1] at hc
      clear hs1
      generalize partsOf s (sep.data.toList.headD 0) = L at hc
      go_enter Tryd.func12, Tryd.ntmps12
      go_wp2_with (go_at_call 37; refine (hc _ hm).mono ?_; rintro e w1 ⟨v, rfl, hR, hb⟩; obtain ⟨A, c, rfl⟩ := Kd.R_slice hR)
      all_goals first | (exfalso; simp at *; omega) | (go_ret2; exact ⟨_, rfl, hR, hb⟩)
    · rw [if_neg (fun h => h2 h.2)]
      go_enter Tryd.func12, Tryd.ntmps12
      go_wp2_with (fail)
      all_goals first | (exfalso; simp at *; omega) | (go_ret2; exact ⟨_, rfl, Kd.R_nil _ _ _ _ _, Below.refl _ _⟩)
  · rw [if_neg (fun h => h1 h.1)]
    go_enter Tryd.func12, Tryd.ntmps12
    go_wp2_with (fail)
    all_goals first | (exfalso; simp at *; omega) | (go_ret2; exact ⟨_, rfl, Kd.R_nil _ _ _ _ _, Below.refl _ _⟩)
theorem lawSplitString_in (s sep : ByteArray) (hs : s.size ≤ 1048576) (hp : sep.size ≤ 1048576) (m : Int) (w : World) (hm : w.cell? ⟨0, 0, none⟩ = some (.int .i64 m)) :
    Calls Tryd.prog 7 #[.string s, .string sep] w fun e w' => e = .returned (.bool true) ∧ Below w.heap.size w w' := by
  have h0 : 0 < w.heap.size := by
    rcases Nat.eq_zero_or_pos w.heap.size with h0 | h0
    · have : w.heap[0]? = none := Array.getElem?_eq_none (by omega)
      simp [World.cell?, this] at hm
    · exact h0
  have hspec := spec_splitString s sep
  have himpl := implSplit s sep m
  have hlen := split_len s sep
  generalize splitRes s sep = q at hspec himpl hlen
  obtain ⟨L, b⟩ := q
  simp only at himpl hlen
  obtain ⟨M, hmk, hMl, hM⟩ := marks L hlen 9100 (by omega)
  have hhd := held M (by omega) (fun j hj => hM j (by omega)) 9100 (by omega)
  have heq := eq_same L hlen 9100 (by omega)
  rw [hMl] at hhd
  have hheld : ∀ (A : Option Addr) (c : Nat) (w : World), Kd.C Kd.string w A L.length M → L.length ≤ c → ∀ mm, laws_heldStringS.f 9100 M 1 = some mm → Calls Tryd.prog 33 #[.slice A L.length c, .int .i64 1] w fun e w' => e = .returned (.int .i64 mm) ∧ Below w.heap.size w w' := by
    intro A c w hC hc mm hm
    rw [← hMl] at hC hc ⊢
    exact S.laws_heldStringS.calls 9100 A c M 1 mm w hC hc hm
  have hread : ∀ (A : Option Addr) (c : Nat) (w : World) (base : Nat) (ok : Nat → Prop), Kd.R Kd.string 9 w base ok (.slice A L.length c) M → L.length ≤ c ∧ Kd.C Kd.string w A L.length M := by
    intro A c w base ok h
    have h2 := Kd.R_reads' h
    refine ⟨h2.2.1, ?_⟩
    rw [h2.1]; exact h2.2.2
  clear hMl hM
  have hlen9 : ((L.length + 1 : Nat) : Int) < 9001 ∧ 0 < ((L.length + 1 : Nat) : Int) := by omega
  generalize ((L.length + 1 : Nat) : Int) = mm at hmk hhd hlen9
  go_enter Tryd.func7, Tryd.ntmps7
  go_wp2_with (go_at_call 30; refine (S.spec_SplitString.calls 9100 s sep _ _ _ hspec).mono ?_; rintro e w1 ⟨vw, rfl, hRw, hb1⟩; obtain ⟨Aw, cw, rfl⟩ := Kd.R_slice hRw; refine Hid.out ?_)
  refine Lib.hid ?_
  go_wp2_with (go_at_call 12; refine (himpl _ ((hb1.cell (p := ⟨0, 0, none⟩) h0).trans hm)).mono ?_; rintro e w2 ⟨vg, rfl, hRg, hb2⟩; obtain ⟨Ag, cg, rfl⟩ := Kd.R_slice hRg; refine Hid.out ?_)
  refine Lib.hid ?_
  have hRw2 := Kd.R_below hRw hb2
  have hCg := Kd.R_reads' hRg
  have hCw := Kd.R_reads' hRw2
  go_wp2_with (go_at_call 31; refine (S.laws_eqStringS.calls 9100 Ag cg L Aw cw L true _ hCg.2.2 hCg.2.1 hCw.2.2 hCw.2.1 heq).mono ?_; rintro e w3 ⟨rfl, hd3⟩; refine Hid.out ?_)
  refine Lib.hid ?_
  have hb3 : Below w1.heap.size w1 w3 := hb2.trans (hd3.below.mono hb2.size)
  have hRg3 : Kd.R Kd.string 9 w3 w1.heap.size (fun k => w1.heap.size ≤ k) (.slice Ag L.length cg) L := Kd.R_mono (Kd.R_bound (Kd.R_below hRg hd3.below)) (fun k hk => hk.2.1)
  have hRw3 : Kd.R Kd.string 9 w3 w.heap.size (fun k => k < w1.heap.size) (.slice Aw L.length cw) L := Kd.R_below (Kd.R_mono (Kd.R_bound hRw) (fun k hk => hk.2.2.1)) hb3
  clear hRw2 hCg hCw hRg hRw
  go_wp2_with (go_at_call 32; refine (S.laws_markStringS.calls 9100 (fun k => w1.heap.size ≤ k) (.slice Ag L.length cg) L 1 mm M w1 _ hb3 hRg3 hmk).mono ?_; rintro e w4 ⟨rfl, hRg4, hb4, hk4⟩; refine Hid.out ?_)
  refine Lib.hid ?_
  have hRw4 : Kd.R Kd.string 9 w4 w.heap.size (fun k => k < w1.heap.size) (.slice Aw L.length cw) L := Kd.R_kept hRw3 hk4 (fun k hk h => by omega)
  clear hRg3 hRw3 hk4
  have hCg4 := hread _ _ _ _ _ hRg4
  go_wp2_with (go_at_call 33; refine (hheld Ag cg _ hCg4.2 hCg4.1 mm hhd).mono ?_; rintro e w5 ⟨rfl, hb5⟩; refine Hid.out ?_)
  refine Lib.hid ?_
  have hn : ¬ mm < 0 := by omega
  have hw5 : Below w.heap.size w w5 := (hb1.trans (hb4.mono hb1.size)).trans (hb5.mono (hb1.trans (hb4.mono hb1.size)).size)
  have hRw5 := Kd.R_below hRw4 hb5
  have hRg5 := Kd.R_below hRg4 hb5
  clear hRw4 hRg4 hCg4
  go_wp2_with (go_at_call 12; refine (himpl _ ((hw5.cell (p := ⟨0, 0, none⟩) h0).trans hm)).mono ?_; rintro e w6 ⟨vh, rfl, hRh, hb6⟩; obtain ⟨Ah, ch, rfl⟩ := Kd.R_slice hRh; refine Hid.out ?_)
  refine Lib.hid ?_
  have hw6 : Below w.heap.size w w6 := hw5.trans (hb6.mono hw5.size)
  have hRw6 := Kd.R_below hRw5 hb6
  have hRg6 := Kd.R_below hRg5 hb6
  have hCh := Kd.R_reads' hRh
  have hCw := Kd.R_reads' hRw6
  clear hRw5 hRg5
  go_wp2_with (go_at_call 31; refine (S.laws_eqStringS.calls 9100 Ah ch L Aw cw L true _ hCh.2.2 hCh.2.1 hCw.2.2 hCw.2.1 heq).mono ?_; rintro e w7 ⟨rfl, hd7⟩; refine Hid.out ?_)
  refine Lib.hid ?_
  have hw7 : Below w.heap.size w w7 := hw6.trans (hd7.below.mono hw6.size)
  have hRg7 := Kd.R_below hRg6 hd7.below
  have hCg7 := hread _ _ _ _ _ hRg7
  clear hRg6 hRw6 hCh hCw hRh
  go_wp2_with (go_at_call 33; refine (hheld Ag cg _ hCg7.2 hCg7.1 mm hhd).mono ?_; rintro e w8 ⟨rfl, hb8⟩)
  all_goals (go_ret; exact ⟨rfl, hw7.trans (hb8.mono hw7.size)⟩)
theorem lawSplitString (s sep : ByteArray) (m : Int) (w : World) (hm : w.cell? ⟨0, 0, none⟩ = some (.int .i64 m)) :
    Calls Tryd.prog 7 #[.string s, .string sep] w fun e w' => e = .returned (.bool true) ∧ Below w.heap.size w w' := by
  by_cases hs : s.size ≤ 1048576
  · by_cases hp : sep.size ≤ 1048576
    · exact lawSplitString_in s sep hs hp m w hm
    · go_enter Tryd.func7, Tryd.ntmps7
      go_wp2_with (fail)
      all_goals first | (exfalso; simp at *; omega) | (go_ret; exact ⟨rfl, Below.refl _ _⟩)
  · go_enter Tryd.func7, Tryd.ntmps7
    go_wp2_with (fail)
    all_goals first | (exfalso; simp at *; omega) | (go_ret; exact ⟨rfl, Below.refl _ _⟩)
end Go.Proofs.YtnbcmjoimenhjaaDoor
