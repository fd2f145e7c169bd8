/- impl.FirstTable. No condition. -/
import Derived.Test.YtcldfmnkeiogdaaWc
import Derived.Test.YtcldfmnkeiogdaaNf
import Derived.Test.YtcldfmnkeiogdaaWApart
namespace Go.Proofs.Ytcldfmnkeiogdaa
open Go.RowKit S Go.Proofs.YtcldfmnkeiogdaaW.PrintWords Go.Proofs.YtcldfmnkeiogdaaW.PrintLast Go.Proofs.YtcldfmnkeiogdaaW.PrintMore
theorem and_one (a : Nat) (h : a < 65536) : Go.bits .and .u64 (a : Int) 1 = ((a % 2 : Nat) : Int) := by
  show IntKind.u64.wrap ((BitVec.ofInt 64 (a : Int) &&& BitVec.ofInt 64 1).toNat : Int) = _
  have h1 : (BitVec.ofInt 64 (a : Int)).toNat = a := by
    rw [BitVec.ofInt_natCast, BitVec.toNat_ofNat]
    exact Nat.mod_eq_of_lt (by omega)
  have h2 : (BitVec.ofInt 64 1).toNat = 1 := by decide
  rw [BitVec.toNat_and, h1, h2, Nat.and_one_is_mod]
  simp [IntKind.wrap, IntKind.bits, IntKind.signed]
  omega
theorem bit_form (F Z : Nat) (h : F < 65536) : Go.bits .and .u64 ((F : Int) / 2 ^ Z) 1 = ((F / 2 ^ Z % 2 : Nat) : Int) := by
  have e : (F : Int) / 2 ^ Z = ((F / 2 ^ Z : Nat) : Int) := by simp
  rw [e]
  exact and_one _ (Nat.lt_of_le_of_lt (Nat.div_le_self _ _) h)
theorem S_lit0 {α : Type} (d : Kd α) (e : Nat) (w : World) (base : Nat) (ok : Nat → Prop) (h : base ≤ w.heap.size) (hok : ok w.heap.size) : Kd.S d e (w.alloc (.cells #[] e)) base ok (.slice (some ⟨w.heap.size, 0, none⟩) 0 0) [] := by
  refine ⟨fun _ => 0, fun k hk => ?_, [], ⟨by simp, Or.inr ⟨w.heap.size, 0, #[], rfl, h, ?_, Nat.le_refl _, by decide, by simp, by simp⟩⟩, ⟨by simp, fun j p hp => by simp at hp⟩⟩
  · have : w.heap.size = k := by simpa [Value.ownBlock] using hk
    rw [← this]; exact hok
  · simp only [World.alloc]; rw [Array.getElem?_push, if_pos rfl]
theorem info27 : (Try.prog.info? 27).map (fun i => (i.zero, i.size, i.bytes)) = some (some (.slice none 0 0), 1, 24) := by kernel_rfl
theorem info3 : (Try.prog.info? 3).map (fun i => (i.zero, i.size, i.bytes)) = some (some (.int .i64 0), 1, 8) := by kernel_rfl
set_option maxRecDepth 100000 in
set_option maxHeartbeats 2000000 in
theorem FirstTable_go {w : World} {b1 b2 : Nat} {k1 k2 : Nat → Prop} (A B : Option Addr) (c c2 : Nat) (rows cols : List Int) (hA : Kd.R (Kd.int .i64) 3 w b1 k1 (.slice A rows.length c) rows) (hB : Kd.R (Kd.int .i64) 3 w b2 k2 (.slice B cols.length c2) cols)
    (hok : okB rows cols = true) (t : List (List Int)) (F : Nat) (hF : F < 65536) (htl : t.length = rows.length) (hr4 : rows.length ≤ 4) (hc4 : cols.length ≤ 4) (htr : ∀ r ∈ t, r.length = cols.length)
    (hbit : ∀ (i k : Nat) (hi : i < t.length) (hk : k < (t[i]).length), ((F / 2 ^ (i * cols.length + k) % 2 : Nat) : Int) = (t[i])[k])
    (hct : ∀ (W : World), Below w.heap.size w W → Calls Try.prog 47 #[.slice A rows.length c, .slice B cols.length c2] W fun e w' => e = .returned (.tuple #[.int .u64 (F : Int), .bool true]) ∧ Below W.heap.size W w') :
    Calls Try.prog 24 #[.slice A rows.length c, .slice B cols.length c2] w fun e w' => ∃ v, e = .returned (.tuple #[v, .bool true]) ∧ Kd.S (Kd.slice 3 (Kd.int .i64)) 27 w' w.heap.size (fun _ => True) v t ∧ Below w.heap.size w w' := by
  have hs := impl_sums rows cols 20 (by omega)
  have rA := Kd.R_reads' hA
  have rB := Kd.R_reads' hB
  rw [hok] at hs
  have Hbit := Lib.hid hbit
  have Htr := Lib.hid htr
  have HF := Lib.hid hF
  clear hbit htr hok hA hB hF
  go_enter Try.func24, Try.ntmps24
  go_wp2_with (go_at_call 45; refine (S.impl_areSums.calls 20 _ c rows _ c2 cols true _ rA.2.2 rA.2.1 rB.2.2 rB.2.1 hs).mono ?_; rintro e w1 ⟨rfl, hd1⟩; refine Hid.out ?_)
  refine Lib.hid ?_
  clear rA rB hs
  have hw1 := hd1.below
  go_wp2_with (go_at_call 47; refine (hct _ hw1).mono ?_; rintro e w2 ⟨rfl, hb2⟩; refine Hid.out ?_)
  refine Lib.hid ?_
  have hw2 := hw1.trans (hb2.mono hw1.size)
  clear hd1 hb2 hw1 hct
  have hS0 := S_lit0 (Kd.slice 3 (Kd.int .i64)) 27 w2 w.heap.size (fun _ => True) hw2.size trivial
  have hB0 := below_alloc hw2 (.cells #[] 27)
  go_wp2_with (fail)
  go_loopw [8, 27] (fun v i wr => ∃ k : Nat, k ≤ rows.length ∧ i = .int .i64 k ∧ Kd.S (Kd.slice 3 (Kd.int .i64)) 27 wr w.heap.size (fun _ => True) v (t.take k) ∧ Below w.heap.size w wr) (fun _ i _ => rows.length - (intOf i).toNat)
  case atStart => exact ⟨0, Nat.zero_le _, rfl, hS0, hB0⟩
  case round =>
    obtain ⟨k, hk, rfl, hS, hB⟩ := hrel
    clear hS0 hB0 hw2
    by_cases hkl : k < rows.length
    · have hkl2 : (k : Int) < (rows.length : Int) := by omega
      obtain ⟨r, hr⟩ : ∃ r, t[k]? = some r := ⟨t[k], List.getElem?_eq_getElem (by omega)⟩
      have hrl := Htr.out r (List.mem_of_getElem? hr)
      have hS1 := Kd.S_alloc (Kd.S_mono (Kd.S_bound hS) (ok' := fun b => b < wr.heap.size) (fun b hb => hb.2.2.1)) (.cells #[] 3)
      have hR1 : Kd.R (Kd.int .i64) 3 (wr.alloc (.cells #[] 3)) w.heap.size (fun b => wr.heap.size ≤ b) (.slice (some ⟨wr.heap.size, 0, none⟩) 0 0) [] := Kd.R_of_own (xs := ([] : List Int)) ⟨rfl, Or.inr ⟨wr.heap.size, 0, #[], rfl, hB.size, by simp only [World.alloc]; rw [Array.getElem?_push, if_pos rfl], Nat.le_refl _, by decide, rfl, rfl⟩⟩ (fun k hk => by
        have : wr.heap.size = k := by simpa [Value.ownBlock] using hk
        omega)
      have hB1 := below_alloc hB (.cells #[] 3)
      have hsz1 : wr.heap.size ≤ (wr.alloc (.cells #[] 3)).heap.size := by simp only [World.alloc, Array.size_push]; omega
      generalize hN0 : wr.heap.size = N0 at hS1 hR1 hsz1
      go_wp2_with (fail)
      go_loopw [10, 33] (fun v2 j wr2 => ∃ q : Nat, q ≤ cols.length ∧ j = .int .i64 q ∧ Kd.R (Kd.int .i64) 3 wr2 w.heap.size (fun b => N0 ≤ b) v2 (r.take q) ∧ Kd.S (Kd.slice 3 (Kd.int .i64)) 27 wr2 w.heap.size (fun b => b < N0) u8 (t.take k) ∧ Below w.heap.size w wr2 ∧ N0 ≤ wr2.heap.size) (fun _ j _ => cols.length - (intOf j).toNat)
      case atStart => exact ⟨0, Nat.zero_le _, rfl, hR1, hS1, hB1, hsz1⟩
      case round =>
        obtain ⟨q, hq, rfl, hR2, hS2, hB2, hN2⟩ := hrel
        clear hS1 hR1 hB1 hS hB hsz1
        by_cases hql : q < cols.length
        · have hql2 : (q : Int) < (cols.length : Int) := by omega
          obtain ⟨P, hP, hP16⟩ : ∃ P : Nat, (k : Int) * (cols.length : Int) = (P : Int) ∧ P ≤ 16 := ⟨k * cols.length, by simp, Nat.le_trans (Nat.mul_le_mul (show k ≤ 4 by omega) hc4) (by decide)⟩
          obtain ⟨Z, hZ, hZ20⟩ : ∃ Z : Nat, (P : Int) + (q : Int) = (Z : Int) ∧ (Z : Int) ≤ 20 := ⟨P + q, by omega, by omega⟩
          have hP2 : (P : Int) ≤ 16 := by omega
          have hq2 : (q : Int) ≤ 4 := by omega
          have hZ0 : (0 : Int) ≤ (Z : Int) := by omega
          have hqr : q < r.length := by omega
          have hZe : Z = k * cols.length + q := by
            have : ((k * cols.length : Nat) : Int) = (P : Int) := by rw [← hP]; simp
            omega
          obtain ⟨hkt, hre⟩ := List.getElem?_eq_some_iff.1 hr
          have hx1 := Hbit.out k q hkt (by rw [hre]; exact hqr)
          simp only [hre] at hx1
          have hx2 := bit_form F Z HF.out
          rw [hZe, hx1, ← hZe] at hx2
          obtain ⟨x, hxx⟩ : ∃ x, r[q] = x := ⟨_, rfl⟩
          rw [hxx] at hx2 hx1
          have hx01 : 0 ≤ x ∧ x ≤ 1 := by omega
          obtain ⟨hx3, hx4⟩ := hx01
          have hxt : r.take (q + 1) = r.take q ++ [x] := by rw [List.take_succ_eq_append_getElem hqr, hxx]
          have hlen4 : (r.take q).length ≤ 4 := by rw [List.length_take]; omega

          have Hxt := Lib.hid hxt
          clear hx1 hxx hre hxt hkt hZe
          go_wp2_with (first | ((with_reducible refine gate_builtin (b := .append) (xs := #[.tmp 36, .tmp 47]) rfl ?_); at_builtin; refine Kd.R_append (Kd.int .i64) (w0 := w) w.heap.size rfl (.tmp 36) (.tmp 47) 27 3 (.int .i64 0) 8 rfl Try.underlying27 info3 rfl (by decide) (by omega) u10 (r.take q) x [.int .i64 x] (fun b => N0 ≤ b) (fun _ => False) rfl rfl rfl (fun _ hk => hk.elim) (fun k hk => by omega) hR2 hB2 hB2.size (by omega) ?_; intro v107 w13 ho hb hg hat; refine Hid.out ?_))
          refine Lib.hid ?_
          have hS3 := Kd.S_grown hS2 hg (fun b hb hrow => by have := hR2.1 b hrow.symm; simp only at this; omega)
          have hsz3 := hg.size
          rw [← Hxt.out] at ho
          go_wp2_with (fail)
          go_roundw
          case rel => exact ⟨q + 1, by omega, by go_num, ho, hS3, hb, by omega⟩
          case measure => simp [intOf]; omega
        · have hql2 : ¬ (q : Int) < (cols.length : Int) := by omega
          have hqe : r.take q = r := List.take_of_length_le (by omega)
          rw [hqe] at hR2
          clear hqe
          obtain ⟨Ar, cr, rfl⟩ := Kd.R_slice hR2
          have hown : ∀ b, N0 ≤ b → True ∧ some b ≠ u8.ownBlock := fun b hb => ⟨trivial, fun he => by
            obtain ⟨f, hRf⟩ := hS2
            have := hRf.1 b he.symm
            simp only at this; omega⟩
          have hS3 := Kd.S_mono hS2 (ok' := fun b => True ∧ ¬ N0 ≤ b) (fun b hb => ⟨trivial, by omega⟩)
          have htk : t.take (k + 1) = t.take k ++ [r] := by
            obtain ⟨hkt, hre⟩ := List.getElem?_eq_some_iff.1 hr
            rw [List.take_succ_eq_append_getElem hkt, hre]
          have hlen4 : (t.take k).length ≤ 4 := by rw [List.length_take]; omega
          have Htk := Lib.hid htk
          have Hr := Lib.hid hr
          clear htk hr hS2
          have Hrl := Lib.hid hrl
          clear hrl
          go_wp2_with (first | ((with_reducible refine gate_builtin (b := .append) (xs := #[.tmp 50, .tmp 52]) rfl ?_); at_builtin; refine Kd.S_append (Kd.slice 3 (Kd.int .i64)) (w0 := w) w.heap.size rfl (.tmp 50) (.tmp 52) 33 27 (.slice none 0 0) 24 rfl Try.underlying33 info27 rfl (by decide) (by omega) u8 (t.take k) r [.slice Ar r.length cr] (fun _ => True) (fun b => N0 ≤ b) rfl rfl ⟨_, rfl, hR2⟩ hown (fun _ _ => trivial) hS3 hB2 hB2.size (by omega) ?_; intro v108 w14 ho hb hg hat; refine Hid.out ?_))
          refine Lib.hid ?_
          rw [← Htk.out] at ho
          go_wp2_with (fail)
          go_roundw
          case rel => exact ⟨k + 1, by omega, by go_num, ho, hb⟩
          case measure => simp [intOf]; omega
    · have hkl2 : ¬ (k : Int) < (rows.length : Int) := by omega
      go_wp2_with (fail)
      have hte : t.take k = t := List.take_of_length_le (by omega)
      rw [hte] at hS
      all_goals (go_ret2; exact ⟨_, rfl, hS, hB⟩)
end Go.Proofs.Ytcldfmnkeiogdaa
