/- The walk of the law FnExactJoinStrings. No condition beyond the bounds. -/
import Derived.Test.YtnbcmjoimenhjaaWa
namespace Go.Proofs.Ytnbcmjoimenhjaa
open Go.RowKit S Go.Proofs.YtnbcmjoimenhjaaW.PrintWords Go.Proofs.YtnbcmjoimenhjaaW.PrintLast Go.Proofs.YtnbcmjoimenhjaaW.PrintMore
theorem sz_l0 (l : List ByteArray) (hs : ∀ p ∈ l, p.size ≤ 9223372036854775807) (hl : l.length ≤ 1048576) : ∀ (d i m k : Nat), i + d = l.length → d < k → m + tot (l.take i) = 1048576 - l.length →
    ∃ r, laws_szStringS.l0 k l (m : Int) (i : Int) = some r ∧ (0 ≤ r → tot l ≤ 1048576)
  | 0, i, m, k, hi, hk, hm => by
    obtain ⟨k, rfl⟩ : ∃ m, k = m + 1 := ⟨k - 1, by omega⟩
    rw [laws_szStringS.l0, if_neg (by omega)]
    refine ⟨_, rfl, fun _ => ?_⟩
    rw [show i = l.length by omega, List.take_length] at hm
    omega
  | d + 1, i, m, k, hi, hk, hm => by
    obtain ⟨k, rfl⟩ : ∃ m, k = m + 1 := ⟨k - 1, by omega⟩
    have hmem := getD_mem l i (by omega)
    have hsz := hs _ hmem
    have hts := tot_snoc l i (by omega)
    rw [laws_szStringS.l0, if_pos (by omega), if_pos (by omega), rd_eq]
    generalize (l.getD i ByteArray.empty).size = z at hsz hts
    by_cases h : z ≤ m
    · have e : wrap64 ((m : Int) - (z : Int)) = ((m - z : Nat) : Int) := by unfold wrap64; omega
      rw [e, if_neg (by omega), step_big i (by omega)]
      exact sz_l0 l hs hl d (i + 1) (m - z) k (by omega) (by omega) (by omega)
    · have e : wrap64 ((m : Int) - (z : Int)) = (m : Int) - (z : Int) := by unfold wrap64; omega
      rw [e, if_pos (by omega)]
      exact ⟨_, rfl, fun h => by omega⟩
theorem sz_eq (l : List ByteArray) (hs : ∀ p ∈ l, p.size ≤ 9223372036854775807) (hl : l.length ≤ 9223372036854775807) : ∃ r, laws_szStringS.f 2000000 l 1048576 = some r ∧ (0 ≤ r → l.length ≤ 1048576 ∧ tot l ≤ 1048576) := by
  unfold laws_szStringS.f
  by_cases h : l.length ≤ 1048576
  · have e : wrap64 (1048576 - (l.length : Int)) = ((1048576 - l.length : Nat) : Int) := by unfold wrap64; omega
    rw [e, if_neg (by omega)]
    obtain ⟨r, h1, h2⟩ := sz_l0 l hs h l.length 0 (1048576 - l.length) 2000000 (by omega) (by omega) (by simp [tot])
    exact ⟨r, h1, fun hr => ⟨h, h2 hr⟩⟩
  · have e : wrap64 (1048576 - (l.length : Int)) = 1048576 - (l.length : Int) := by unfold wrap64; omega
    rw [e, if_pos (by omega)]
    exact ⟨_, rfl, fun h => by omega⟩
theorem size_le_tot (l : List ByteArray) (p : ByteArray) (hp : p ∈ l) : p.size ≤ tot l := by
  unfold tot
  induction l with
  | nil => cases hp
  | cons a r ih =>
    rw [List.map_cons, List.sum_cons]
    rcases List.mem_cons.1 hp with rfl | h
    · omega
    · have := ih h; omega
theorem to_l0 (l : List ByteArray) (hl : l.length ≤ 1048576) : ∀ (d i k : Nat), i + d = l.length → d < k → laws_toStringS.l0 k l (l.take i ++ List.replicate d ByteArray.empty) (i : Int) = some l
  | 0, i, k, hi, hk => by
    obtain ⟨k, rfl⟩ : ∃ m, k = m + 1 := ⟨k - 1, by omega⟩
    rw [laws_toStringS.l0, if_neg (by omega), show i = l.length by omega]
    simp
  | d + 1, i, k, hi, hk => by
    obtain ⟨k, rfl⟩ : ∃ m, k = m + 1 := ⟨k - 1, by omega⟩
    have hlen : (l.take i ++ List.replicate (d + 1) ByteArray.empty).length = l.length := by simp; omega
    rw [laws_toStringS.l0, if_pos (by omega), if_pos (by omega), if_pos (by rw [hlen]; omega), rd_eq, Int.toNat_natCast, step_big i (by omega)]
    have e : (l.take i ++ List.replicate (d + 1) ByteArray.empty).set i (l.getD i ByteArray.empty) = l.take (i + 1) ++ List.replicate d ByteArray.empty := by
      have hti : (l.take i).length = i := by rw [List.length_take]; omega
      rw [List.set_append, if_neg (by omega), hti, Nat.sub_self, List.replicate_succ, List.set_cons_zero, List.take_succ_eq_append_getElem (show i < l.length by omega), List.append_assoc, show l.getD i ByteArray.empty = l[i] by simp [List.getD_eq_getElem?_getD, List.getElem?_eq_getElem (show i < l.length by omega)]]
      rfl
    rw [e]
    exact to_l0 l hl d (i + 1) k (by omega) (by omega)
theorem to_eq (l : List ByteArray) (hl : l.length ≤ 1048576) : laws_toStringS.f 2000000 l = some l := by
  unfold laws_toStringS.f
  rw [if_pos (by omega), if_pos (by omega), Int.toNat_natCast]
  have := to_l0 l hl l.length 0 2000000 (by omega) (by omega)
  rw [List.take_zero, List.nil_append] at this
  exact this
theorem made_spot {w : World} {base : Nat} {ok : Nat → Prop} {A : Option Addr} {n c : Nat} {l : List ByteArray} (h : Kd.R Kd.string 9 w base ok (.slice A n c) l) : ∀ a, A = some a → a.spot = none ∧ a.block < w.heap.size := by
  intro a ha
  subst ha
  have ho := Kd.own_of_R h
  rcases ho.2 with ⟨hv, _⟩ | ⟨g, cap, cur, hv, hb, hh, _⟩
  · cases hv
  · injection hv with h1
    injection h1 with h1
    subst h1
    refine ⟨rfl, ?_⟩
    rcases Nat.lt_or_ge g w.heap.size with h | h
    · exact h
    · rw [Array.getElem?_eq_none h] at hh; cases hh
theorem lawJoin_in (A : Option Addr) (c : Nat) (l : List ByteArray) (sep : ByteArray) (hsp : sep.size ≤ 1048576) (hl : l.length ≤ 1048576) (ht : tot l ≤ 1048576) (r : Int) (hr : 0 ≤ r) (hsz : laws_szStringS.f 2000000 l 1048576 = some r) (w : World) (hcp : l.length ≤ c) (hC : Kd.C Kd.string w A l.length l) :
    Calls Try.prog 3 #[.slice A l.length c, .string sep] w fun e w' => e = .returned (.bool true) ∧ Below w.heap.size w w' := by
  have hto := to_eq l hl
  have heq := eq_same l (by omega) 2000000 (by omega)
  have hspec := spec_join l sep (by omega) (fun p hp => by have := size_le_tot l p hp; omega) (by omega)
  have himpl : ∀ (w : World) (A : Option Addr) (c : Nat), (∀ a, A = some a → a.spot = none ∧ a.block < w.heap.size) → l.length ≤ c → Kd.C Kd.string w A l.length l → Calls Try.prog 7 #[.slice A l.length c, .string sep] w fun e w' => e = .returned (.tuple #[.string (joinRes l sep).1, .bool (joinRes l sep).2]) ∧ Below w.heap.size w w' := fun w A c hA hc hC => implJoin A hA c l sep (by omega) (by omega) hc hC
  generalize joinRes l sep = q at hspec himpl
  obtain ⟨q1, q2⟩ := q
  simp only at himpl
  have hn : ¬ r < 0 := by omega
  go_enter Try.func3, Try.ntmps3
  go_wp2_with (go_at_call 4; refine (S.laws_szStringS.calls 2000000 A c l 1048576 r _ hC hcp hsz).mono ?_; rintro e w1 ⟨rfl, hd1⟩; refine Hid.out ?_)
  refine Lib.hid ?_
  have hb1 := hd1.below
  have hC1 := Kd.C_below hC hb1
  go_wp2_with (go_at_call 6; refine (S.laws_toStringS.calls 2000000 A c l l _ hC1 hcp hto).mono ?_; rintro e w2 ⟨v0, rfl, hR0, hb2⟩; obtain ⟨A0, c0, rfl⟩ := Kd.R_slice hR0; refine Hid.out ?_)
  refine Lib.hid ?_
  have hw2 : Below w.heap.size w w2 := hb1.trans (hb2.mono hb1.size)
  have hC2 := Kd.C_below hC1 hb2
  have hr0 := Kd.R_reads' hR0
  go_wp2_with (go_at_call 5; refine (S.spec_JoinStrings.calls 6000000 A0 c0 l sep q1 q2 _ hr0.2.2 hr0.2.1 hspec).mono ?_; rintro e w3 ⟨rfl, hd3⟩; refine Hid.out ?_)
  refine Lib.hid ?_
  have hb3 := hd3.below
  have hw3 : Below w.heap.size w w3 := hw2.trans (hb3.mono hw2.size)
  have hC3 := Kd.C_below hC2 hb3
  clear hR0 hr0 hC1 hC2
  go_wp2_with (go_at_call 6; refine (S.laws_toStringS.calls 2000000 A c l l _ hC3 hcp hto).mono ?_; rintro e w4 ⟨v1, rfl, hR1, hb4⟩; obtain ⟨A1, c1, rfl⟩ := Kd.R_slice hR1; refine Hid.out ?_)
  refine Lib.hid ?_
  have hw4 : Below w.heap.size w w4 := hw3.trans (hb4.mono hw3.size)
  have hC4 := Kd.C_below hC3 hb4
  have hr1 := Kd.R_reads' hR1
  have hA1 := made_spot hR1
  clear hC3
  go_wp2_with (go_at_call 7; refine (himpl _ A1 c1 hA1 hr1.2.1 hr1.2.2).mono ?_; rintro e w5 ⟨rfl, hb5⟩; refine Hid.out ?_)
  refine Lib.hid ?_
  have hw5 : Below w.heap.size w w5 := hw4.trans (hb5.mono hw4.size)
  have hC5 := Kd.C_below hC4 hb5
  have hR5 := Kd.R_below hR1 hb5
  clear hR1 hr1 hA1 hC4
  go_wp2_with (go_at_call 6; refine (S.laws_toStringS.calls 2000000 A c l l _ hC5 hcp hto).mono ?_; rintro e w6 ⟨v2, rfl, hR2, hb6⟩; obtain ⟨A2, c2, rfl⟩ := Kd.R_slice hR2; refine Hid.out ?_)
  refine Lib.hid ?_
  have hw6 : Below w.heap.size w w6 := hw5.trans (hb6.mono hw5.size)
  have hr1 := Kd.R_reads' (Kd.R_below hR5 hb6)
  have hr2 := Kd.R_reads' hR2
  go_wp2_with (go_at_call 8; refine (S.laws_eqStringS.calls 2000000 A1 c1 l A2 c2 l true _ hr1.2.2 hr1.2.1 hr2.2.2 hr2.2.1 heq).mono ?_; rintro e w7 ⟨rfl, hd7⟩)
  all_goals (go_ret; exact ⟨rfl, hw6.trans (hd7.below.mono hw6.size)⟩)
theorem lawJoin_big (A : Option Addr) (c : Nat) (l : List ByteArray) (sep : ByteArray) (hsp : sep.size ≤ 1048576) (r : Int) (hr : r < 0) (hsz : laws_szStringS.f 2000000 l 1048576 = some r) (w : World) (hcp : l.length ≤ c) (hC : Kd.C Kd.string w A l.length l) :
    Calls Try.prog 3 #[.slice A l.length c, .string sep] w fun e w' => e = .returned (.bool true) ∧ Below w.heap.size w w' := by
  go_enter Try.func3, Try.ntmps3
  go_wp2_with (go_at_call 4; refine (S.laws_szStringS.calls 2000000 A c l 1048576 r _ hC hcp hsz).mono ?_; rintro e w1 ⟨rfl, hd1⟩)
  all_goals first | (exfalso; omega) | (go_ret; exact ⟨rfl, hd1.below⟩)
theorem lawJoin_sep (A : Option Addr) (n c : Nat) (sep : ByteArray) (hsp : ¬ sep.size ≤ 1048576) (w : World) :
    Calls Try.prog 3 #[.slice A n c, .string sep] w fun e w' => e = .returned (.bool true) ∧ Below w.heap.size w w' := by
  go_enter Try.func3, Try.ntmps3
  go_wp2_with (fail)
  all_goals first | (exfalso; simp at *; omega) | (go_ret; exact ⟨rfl, Below.refl _ _⟩)
theorem lawJoin (A : Option Addr) (c : Nat) (l : List ByteArray) (sep : ByteArray) (hs : ∀ p ∈ l, p.size ≤ 9223372036854775807) (hl : l.length ≤ 9223372036854775807) (w : World) (hcp : l.length ≤ c) (hC : Kd.C Kd.string w A l.length l) :
    Calls Try.prog 3 #[.slice A l.length c, .string sep] w fun e w' => e = .returned (.bool true) ∧ Below w.heap.size w w' := by
  by_cases hsp : sep.size ≤ 1048576
  · obtain ⟨r, h1, h2⟩ := sz_eq l hs hl
    by_cases hr : 0 ≤ r
    · obtain ⟨h3, h4⟩ := h2 hr
      exact lawJoin_in A c l sep hsp h3 h4 r hr h1 w hcp hC
    · exact lawJoin_big A c l sep hsp r (by omega) h1 w hcp hC
  · exact lawJoin_sep A l.length c sep hsp w
end Go.Proofs.Ytnbcmjoimenhjaa
