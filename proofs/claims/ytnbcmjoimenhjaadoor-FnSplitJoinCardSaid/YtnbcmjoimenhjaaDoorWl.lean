/- The walk of the law FnSplitJoin. No condition beyond the start's shape. -/
import Derived.Test.YtnbcmjoimenhjaaDoorNk
import Derived.Test.YtnbcmjoimenhjaaDoorWg
import Derived.Test.YtnbcmjoimenhjaaDoorWj
namespace Go.Proofs.YtnbcmjoimenhjaaDoor
open Go.RowKit S Go.Proofs.YtnbcmjoimenhjaaDoorW.PrintWords Go.Proofs.YtnbcmjoimenhjaaDoorW.PrintLast Go.Proofs.YtnbcmjoimenhjaaDoorW.PrintMore
theorem made_spot {w : World} {base : Nat} {ok : Nat → Prop} {A : Option Addr} {n c : Nat} {l : List ByteArray} (h : Kd.R Kd.string 9 w base ok (.slice A n c) l) : ∀ a, A = some a → a.spot = none ∧ a.block < w.heap.size := by
  intro a ha
  subst ha
  have ho := Kd.own_of_R h
  rcases ho.2 with ⟨hv, _⟩ | ⟨g, cap, cur, hv, hb, hh, _⟩
  · cases hv
  · injection hv with h1
    injection h1 with h1
    subst h1
    refine ⟨rfl, ?_⟩
    rcases Nat.lt_or_ge g w.heap.size with h | h
    · exact h
    · rw [Array.getElem?_eq_none h] at hh; cases hh
theorem joinCall {base : Nat} {ok : Nat → Prop} {A : Option Addr} {c : Nat} {L : List ByteArray} (sep : ByteArray) (w : World) (hR : Kd.R Kd.string 9 w base ok (.slice A L.length c) L) (hl : L.length ≤ 2000000) (ht : tot L ≤ 2000000) (x : ByteArray) (y : Bool) (hj : joinRes L sep = (x, y)) :
    Calls Tryd.prog 14 #[.slice A L.length c, .string sep] w fun e w' => e = .returned (.tuple #[.string x, .bool y]) ∧ Below w.heap.size w w' := by
  have h := Kd.R_reads' hR
  have hi := implJoin A (made_spot hR) c L sep hl ht h.2.1 h.2.2
  rw [hj] at hi
  exact hi
theorem lawSplitJoin (A : Option Addr) (c : Nat) (l : List Int) (hb : ∀ x ∈ l, 0 ≤ x ∧ x ≤ 255) (hcp : l.length ≤ c) (m : Int) (w : World) (hm : w.cell? ⟨0, 0, none⟩ = some (.int .i64 m)) (hC : Kd.C (Kd.int .u8) w A l.length l) :
    Calls Tryd.prog 3 #[.slice A l.length c] w fun e w' => e = .returned (.bool true) ∧ Below w.heap.size w w' := by
  have h0 : 0 < w.heap.size := by
    rcases Nat.eq_zero_or_pos w.heap.size with h0 | h0
    · have : w.heap[0]? = none := Array.getElem?_eq_none (by omega)
      simp [World.cell?, this] at hm
    · exact h0
  have hdS := drawSplit A c l hb
  have hdJ := drawJoin A c l hb
  have hdL := drawLess A c l hb
  clear hb
  go_enter Tryd.func3, Tryd.ntmps3
  go_wp2_with (go_at_call 10; refine (S.laws_vBig.calls A c l _ _ hC hcp rfl).mono ?_; rintro e w1 ⟨rfl, hd1⟩; refine Hid.out ?_)
  refine Lib.hid ?_
  have hw1 := hd1.below
  have hC1 := Kd.C_below hC hw1
  go_wp2_with (go_at_call 11; refine (hdS _ hC1).mono ?_; rintro e w2 ⟨⟨s, sep, rfl, hs, hsep⟩, hb2⟩; refine Hid.out ?_)
  · (go_ret; exact ⟨rfl, hd1.below⟩)
  · refine Lib.hid ?_
    have hw2 := hw1.trans (hb2.mono hw1.size)
    have hC2 := Kd.C_below hC hw2
    go_wp2_with (go_at_call 12; refine (implSplit s sep m _ ((hw2.cell (p := ⟨0, 0, none⟩) h0).trans hm)).mono ?_; rintro e w3 ⟨v, rfl, hR, hb3⟩; obtain ⟨A3, c3, rfl⟩ := Kd.R_slice hR; refine Hid.out ?_)
    refine Lib.hid ?_
    have hw3 := hw2.trans (hb3.mono hw2.size)
    have hC3 := Kd.C_below hC hw3
    go_wp2_with (go_at_call 13; refine (hdJ _ hC3).mono ?_; rintro e w4 ⟨⟨vk, K, mk, rfl, hRk, hk1, hk2⟩, hb4⟩; obtain ⟨A4, c4, rfl⟩ := Kd.R_slice hRk; refine Hid.out ?_)
    refine Lib.hid ?_
    have hw4 := hw3.trans (hb4.mono hw3.size)
    have hC4 := Kd.C_below hC hw4
    have hR4 := Kd.R_below hR hb4
    have htk : tot K ≤ 2000000 := by have := tot_le_all 4010 K hk2; omega
    obtain ⟨x, y, hxy⟩ : ∃ x y, joinRes K mk = (x, y) := ⟨_, _, rfl⟩
    have hsp := spec_join K mk (by omega) (fun p hp => by have := hk2 p hp; omega) htk
    rw [hxy] at hsp
    clear hC1 hC2 hC3 hR hd1 hk2
    go_wp2_with (go_at_call 14; refine (joinCall mk _ hRk (by omega) htk x y hxy).mono ?_; rintro e w5 ⟨rfl, hb5⟩; refine Hid.out ?_)
    refine Lib.hid ?_
    have hw5 := hw4.trans (hb5.mono hw4.size)
    have hR5 := Kd.R_below hR4 hb5
    have hRk5 := Kd.R_reads' (Kd.R_below hRk hb5)
    clear hR4 hRk hxy
    go_wp2_with (go_at_call 15; refine (S.spec_JoinStrings.calls 6000000 A4 c4 K mk x y _ hRk5.2.2 hRk5.2.1 hsp).mono ?_; rintro e w6 ⟨rfl, hd6⟩; refine Hid.out ?_)
    refine Lib.hid ?_
    have hw6 := hw5.trans (hd6.below.mono hw5.size)
    have hR6 := Kd.R_below hR5 hd6.below
    have hC6 := Kd.C_below hC hw6
    clear hR5 hRk5 hsp hd6
    go_wp2_with (go_at_call 16; refine (hdL _ hC6).mono ?_; rintro e w7 ⟨⟨a, b, rfl⟩, hb7⟩; refine Hid.out ?_)
    refine Lib.hid ?_
    have hw7 := hw6.trans (hb7.mono hw6.size)
    have hR7 := Kd.R_below hR6 hb7
    clear hR6 hC6 hC4 hdS hdJ hdL
    obtain ⟨p, hp⟩ : ∃ p, Op.bytesLess a.toList b.toList = p := ⟨_, rfl⟩
    obtain ⟨q, hq⟩ : ∃ q, Op.bytesLess b.toList a.toList = q := ⟨_, rfl⟩
    have hpq : (p && q) = false := by
      cases p with
      | false => rfl
      | true => rw [← hq, less_asym _ _ hp]; rfl
    have hlp : impl_LessString.f a b = some p := congrArg some hp
    have hlq : impl_LessString.f b a = some q := congrArg some hq
    have hsp : spec_LessString.f a b = some p := congrArg some hp
    have hsj := split_join s sep (by omega)
    clear hp hq
    generalize splitRes s sep = qq at *
    obtain ⟨L, ok⟩ := qq
    simp only at *
    go_wp2_with (go_at_call 17; refine (S.impl_LessString.calls a b p _ hlp).mono ?_; rintro e w8 ⟨rfl, hd8⟩; refine Hid.out ?_)
    refine Lib.hid ?_
    have hw8 := hw7.trans (hd8.below.mono hw7.size)
    have hR8 := Kd.R_below hR7 hd8.below
    clear hR7 hd8
    go_wp2_with (go_at_call 18; refine (S.spec_LessString.calls a b p _ hsp).mono ?_; rintro e w9 ⟨rfl, hd9⟩; refine Hid.out ?_)
    refine Lib.hid ?_
    have hw9 := hw8.trans (hd9.below.mono hw8.size)
    have hR9 := Kd.R_below hR8 hd9.below
    clear hR8 hd9
    go_wp2_with (go_at_call 17; refine (S.impl_LessString.calls a b p _ hlp).mono ?_; rintro e w10 ⟨rfl, hd10⟩; refine Hid.out ?_)
    refine Lib.hid ?_
    have hw10 := hw9.trans (hd10.below.mono hw9.size)
    have hR10 := Kd.R_below hR9 hd10.below
    clear hR9 hd10 hsp hlp
    rcases hsj with ⟨h1, rfl, hj, hl, ht⟩ | ⟨h1, rfl, rfl⟩
    · have hjc := fun w hR => joinCall (base := w2.heap.size) (ok := fun _ => True) (A := A3) (c := c3) sep w hR (by omega) (by omega) s true hj
      clear hj hl ht
      cases p with
      | false =>
        clear hpq hlq
        go_wp2_with (go_at_call 14; refine (hjc _ hR10).mono ?_; rintro e w11 ⟨rfl, hb11⟩)
        all_goals (go_ret; exact ⟨rfl, hw10.trans (hb11.mono hw10.size)⟩)
      | true =>
        have hq : q = false := by simpa using hpq
        subst hq
        clear hpq
        go_wp2_with (go_at_call 17; refine (S.impl_LessString.calls b a false _ hlq).mono ?_; rintro e w11 ⟨rfl, hd11⟩; refine Hid.out ?_)
        refine Lib.hid ?_
        have hw11 := hw10.trans (hd11.below.mono hw10.size)
        have hR11 := Kd.R_below hR10 hd11.below
        clear hR10 hd11 hlq
        go_wp2_with (go_at_call 14; refine (hjc _ hR11).mono ?_; rintro e w12 ⟨rfl, hb12⟩)
        all_goals (go_ret; exact ⟨rfl, hw11.trans (hb12.mono hw11.size)⟩)
    · cases p with
      | false =>
        clear hpq hlq
        go_wp2_with (fail)
        all_goals (go_ret; exact ⟨rfl, hw10⟩)
      | true =>
        have hq : q = false := by simpa using hpq
        subst hq
        clear hpq
        go_wp2_with (go_at_call 17; refine (S.impl_LessString.calls b a false _ hlq).mono ?_; rintro e w11 ⟨rfl, hd11⟩; refine Hid.out ?_)
        refine Lib.hid ?_
        have hw11 := hw10.trans (hd11.below.mono hw10.size)
        go_wp2_with (fail)
        all_goals (go_ret; exact ⟨rfl, hw11⟩)
end Go.Proofs.YtnbcmjoimenhjaaDoor
