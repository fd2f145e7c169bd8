/- The walk of the law FnStrings. Condition: the listed tables, as the start lays them. -/
import Derived.Test.YtnbcmjoimenhjaaDoorNl
import Derived.Test.YtnbcmjoimenhjaaDoorWm
import Derived.Test.YtnbcmjoimenhjaaDoorWb
import Derived.Test.YtnbcmjoimenhjaaDoorWc
import Derived.Test.YtnbcmjoimenhjaaDoorWe
import Derived.Deep.RegionWith
import Derived.Test.YtnbcmjoimenhjaaDoorNx
namespace Go.Proofs.YtnbcmjoimenhjaaDoor
open Go.RowKit S Go.Proofs.YtnbcmjoimenhjaaDoorW.PrintWords Go.Proofs.YtnbcmjoimenhjaaDoorW.PrintLast Go.Proofs.YtnbcmjoimenhjaaDoorW.PrintMore
def fmtRes (n : Int) : ByteArray × Bool := if -999999 ≤ n ∧ n ≤ 999999 then (⟨(Lib.itoa n).toArray⟩, true) else (⟨#[]⟩, false)
theorem implFormat (n : Int) (w : World) (htab : Lib.TabIs Tryd.prog w "internal/strconv.uint64pow10" .u64 Lib.pow10Tab) :
    Calls Tryd.prog 20 #[.int .i64 n] w fun e w' => e = .returned (.tuple #[.string (fmtRes n).1, .bool (fmtRes n).2]) ∧ Below w.heap.size w w' := by
  unfold fmtRes
  by_cases h : -999999 ≤ n ∧ n ≤ 999999
  · rw [if_pos h]; exact implFormatInt_in n h.1 h.2 w htab
  · rw [if_neg h]; exact implFormatInt_out n h w
theorem specFormat (n : Int) : S.spec_FormatInt.f 9 n = some (fmtRes n) := by
  unfold fmtRes
  by_cases h : -999999 ≤ n ∧ n ≤ 999999
  · rw [if_pos h]; exact specFormat_in n h
  · rw [if_neg h]; exact specFormat_out n h
theorem parse_fmt (n : Int) (h : (fmtRes n).2 = true) : parseRes (fmtRes n).1.data.toList = (n, true) := by
  unfold fmtRes at h ⊢
  split at h
  · rename_i hh
    rw [if_pos hh]
    exact parse_itoa n hh.1 hh.2
  · exact absurd h Bool.false_ne_true
theorem vAt_ok (l : List Int) (hb : ∀ x ∈ l, 0 ≤ x ∧ x ≤ 255) (hl : l.length ≤ 65536) (i : Int) (h0 : 0 ≤ i) (h1 : i ≤ 100) : ∃ v, laws_vAt.f l i = some v ∧ 0 ≤ v ∧ v ≤ 255 := by
  unfold laws_vAt.f
  by_cases c1 : i < (l.length : Int)
  · have hr := rd_bytes l hb i
    have e : wrap64 (rd l i) = rd l i := by unfold wrap64; omega
    rw [if_pos c1, if_pos h0, e]
    exact ⟨_, rfl, hr⟩
  · have e : wrap64 (wrap64 (i * 7) + (l.length : Int)) = i * 7 + (l.length : Int) := by unfold wrap64; omega
    rw [if_neg c1, e]
    refine ⟨_, rfl, Int.tmod_nonneg _ (by omega), ?_⟩
    have := Int.tmod_lt_of_pos (i * 7 + (l.length : Int)) (show (0 : Int) < 256 by decide)
    omega
set_option maxRecDepth 100000 in
set_option maxHeartbeats 1000000 in
theorem lawStrings (A : Option Addr) (c : Nat) (l : List Int) (hb : ∀ x ∈ l, 0 ≤ x ∧ x ≤ 255) (hcp : l.length ≤ c) (m : Int) (w : World) (hm : w.cell? ⟨0, 0, none⟩ = some (.int .i64 m)) (hC : Kd.C (Kd.int .u8) w A l.length l)
    (htab : Lib.TabIs Tryd.prog w "internal/strconv.uint64pow10" .u64 Lib.pow10Tab) (tp : TypeId) (pe : Value) (hv : w.var? Tryd.prog "strconv.ErrSyntax" = some #[.iface tp pe]) :
    Calls Tryd.prog 4 #[.slice A l.length c] w fun e w' => e = .returned (.bool true) ∧ Below w.heap.size w w' := by
  have h0 := pos_of_cell hm
  have hdF := drawFormat A c l hb
  have hdP := drawParse A c l hb
  have hdA := drawAppend A c l hb
  go_enter Tryd.func4, Tryd.ntmps4
  go_wp2_with (go_at_call 10; refine (S.laws_vBig.calls A c l _ _ hC hcp rfl).mono ?_; rintro e w1 ⟨rfl, hd1⟩; refine Hid.out ?_)
  refine Lib.hid ?_
  have hw1 := hd1.below
  have hC1 := Kd.C_below hC hw1
  by_cases hl : 65536 < l.length
  · clear hb hdF hdP hdA
    have hl2 : (65536 : Int) < (l.length : Int) := by omega
    go_wp2_with (fail)
    all_goals (go_ret; exact ⟨rfl, hd1.below⟩)
  · have hl2 : ¬ (65536 : Int) < (l.length : Int) := by omega
    obtain ⟨v9, h9, h90, h91⟩ := vAt_ok l hb (by omega) 9 (by omega) (by omega)
    obtain ⟨v10, h10, h100, h101⟩ := vAt_ok l hb (by omega) 10 (by omega) (by omega)
    clear hb hl
    go_wp2_with (go_at_call 19; refine (hdF _ hC1).mono ?_; rintro e w2 ⟨⟨n, rfl⟩, hb2⟩; refine Hid.out ?_)
    refine Lib.hid ?_
    have hw2 := hw1.trans (hb2.mono hw1.size)
    have hf := specFormat n
    have hg := implFormat n
    have hpf := parse_fmt n
    generalize fmtRes n = fr at hf hg hpf
    obtain ⟨s, ok⟩ := fr
    simp only at hg hpf
    clear hd1 hdF hb2
    go_wp2_with (go_at_call 20; refine (hg _ (Lib.tabBelow_of_tabIs htab _ hw2)).mono ?_; rintro e w3 ⟨rfl, hb3⟩; refine Hid.out ?_)
    refine Lib.hid ?_
    have hw3 := hw2.trans (hb3.mono hw2.size)
    clear hg hb3 hw2
    go_wp2_with (go_at_call 21; refine (S.spec_FormatInt.calls 9 n s ok _ hf).mono ?_; rintro e w4 ⟨rfl, hb4⟩; refine Hid.out ?_)
    refine Lib.hid ?_
    have hw4 := hw3.trans (hb4.mono hw3.size)
    have hC4 := Kd.C_below hC hw4
    clear hf hb4 hw3 hC1
    go_wp2_with (go_at_call 22; refine (hdP _ hC4).mono ?_; rintro e w5 ⟨⟨t, rfl⟩, hb5⟩; refine Hid.out ?_)
    refine Lib.hid ?_
    have hw5 := hw4.trans (hb5.mono hw4.size)
    have hf := specParse t
    have hg := fun w htab hv => implParse t w htab tp pe hv
    generalize parseRes t.data.toList = fr at hf hg
    obtain ⟨mm, fine⟩ := fr
    simp only at hg
    clear hb5 hw4 hC4 hdP
    go_wp2_with (go_at_call 23; refine (hg _ (Lib.tabBelow_of_tabIs htab _ hw5) (var_below hv hw5)).mono ?_; rintro e w6 ⟨rfl, hb6⟩; refine Hid.out ?_)
    refine Lib.hid ?_
    have hw6 := hw5.trans (hb6.mono hw5.size)
    clear hg hb6 hw5
    go_wp2_with (go_at_call 24; refine (S.spec_ParseInt.calls 30 t mm fine _ hf).mono ?_; rintro e w7 ⟨rfl, hb7⟩; refine Hid.out ?_)
    refine Lib.hid ?_
    have hw7 := hw6.trans (hb7.mono hw6.size)
    have hC7 := Kd.C_below hC hw7
    clear hf hb7 hw6
    go_wp2_with (go_at_call 25; refine (hdA _ hC7).mono ?_; rintro e w8 ⟨⟨x, rfl, hx⟩, hb8⟩; refine Hid.out ?_)
    refine Lib.hid ?_
    have hw8 := hw7.trans (hb8.mono hw7.size)
    have hf := spec_append x
    have hg := implAppend x
    clear hb8 hw7 hC7 hdA
    obtain ⟨y, sealed, hap⟩ : ∃ y b, appRes x = (y, b) := ⟨_, _, rfl⟩
    rw [hap] at hf hg
    simp only at hg
    go_wp2_with (go_at_call 26; refine (hg _ (Lib.tabBelow_of_tabIs htab _ hw8)).mono ?_; rintro e w9 ⟨rfl, hb9⟩; refine Hid.out ?_)
    refine Lib.hid ?_
    have hw9 := hw8.trans (hb9.mono hw8.size)
    clear hg hb9 hw8
    go_wp2_with (go_at_call 27; refine (S.spec_AppendChecksum.calls 5000 x y sealed _ hf).mono ?_; rintro e w10 ⟨rfl, hb10⟩; refine Hid.out ?_)
    refine Lib.hid ?_
    have hw10 := hw9.trans (hb10.mono hw9.size)
    clear hf hb10 hw9
    have hg := fun w htab hv => implParse s w htab tp pe hv
    obtain ⟨bk, th, hpr⟩ : ∃ a b, parseRes s.data.toList = (a, b) := ⟨_, _, rfl⟩
    rw [hpr] at hg hpf
    simp only at hg
    go_wp2_with (go_at_call 23; refine (hg _ (Lib.tabBelow_of_tabIs htab _ hw10) (var_below hv hw10)).mono ?_; rintro e w11 ⟨rfl, hb11⟩; refine Hid.out ?_)
    refine Lib.hid ?_
    have hw11 := hw10.trans (hb11.mono hw10.size)
    clear hg hb11 hw10
    have hcase : ok = false ∨ (ok = true ∧ bk = n ∧ th = true) := by
      cases ok with
      | false => exact Or.inl rfl
      | true => have := hpf rfl; injection this with a b; exact Or.inr ⟨rfl, a, b⟩
    clear hpf hpr
    cases sealed with
    | false =>
      have hy : y = ⟨#[]⟩ := by
        unfold appRes at hap
        split at hap
        · exact absurd (Prod.mk.inj hap).2 (by simp)
        · exact (Prod.mk.inj hap).1.symm
      subst hy
      clear hap h9 h10
      rcases hcase with rfl | ⟨rfl, rfl, rfl⟩
      all_goals go_wp2_with (fail)
      all_goals (go_ret; exact ⟨rfl, hw11⟩)
    | true =>
      have hvs := ver_seal x (by rw [hap])
      have hy : y = sealOf x := by rw [← hvs.1, hap]
      have hz0 : 0 < y.size := by
        rw [hy, size_len, seal_list]; simp; omega
      have hz1 : y.size ≤ 4000 := by rw [hy]; exact hvs.2.2.2
      have hch := ver_changed x (by rw [hap])
      rw [← hy] at hch
      have hver := fun w hm htab => implVerify y (by omega) m w hm htab
      have hvv : verRes y = (x, true) := by rw [hy]; exact hvs.2.1
      rw [hvv] at hver
      simp only at hver
      clear hap hvs hy hvv
      have hcv := fun (w : World) => Lib.run_convert_string_bytes (P := Tryd.prog) w 9 22 5 y Tryd.underlying9 Tryd.underlying22 Tryd.underlying5
      rcases hcase with rfl | ⟨rfl, rfl, rfl⟩
      · go_wp2_with (go_at_call 28; refine (hver _ ((hw11.cell (p := ⟨0, 0, none⟩) h0).trans hm) (Lib.tabBelow_of_tabIs htab _ hw11)).mono ?_; rintro e w12 ⟨rfl, hb12⟩; refine Hid.out ?_)
        refine Lib.hid ?_
        have hw12 := hw11.trans (hb12.mono hw11.size)
        have hwb := (Lib.bytesWorld_below w12 5 y).mono hw12.size
        have hC12 := Kd.C_below hC (hw12.trans hwb)
        clear hb12 hw11
        go_wp2_with (go_at_call 29; refine (S.laws_vAt.calls A c l 9 v9 _ hC12 hcp h9).mono ?_; rintro e w13 ⟨rfl, hd13⟩; refine Hid.out ?_)
        refine Lib.hid ?_
        obtain ⟨K, hK, hKy⟩ : ∃ K : Nat, Int.tmod v9 (y.size : Int) = (K : Int) ∧ K < y.size := by
          have h1 := Int.tmod_nonneg (y.size : Int) h90
          have h2 := Int.tmod_lt_of_pos v9 (show (0 : Int) < (y.size : Int) by omega)
          exact ⟨(Int.tmod v9 (y.size : Int)).toNat, by omega, by omega⟩
        have hK2 : v9 % (y.size : Int) = (K : Int) := by rw [← hK, Int.tmod_eq_emod_of_nonneg h90]
        have hK3 : (K : Int) < (y.size : Int) := by omega
        have hK4 : (0 : Int) ≤ (K : Int) := by omega
        have hc13 := (hd13.below.cell (p := ⟨w12.heap.size, K, none⟩) (by rw [Lib.bytesWorld_size]; exact Nat.lt_succ_self _)).trans (Lib.bytesWorld_cell w12 5 y K hKy)
        have hC13 := Kd.C_below hC12 hd13.below
        have hfz : (Lib.bytesWorld w12 5 y).frozen? ⟨w12.heap.size, K, none⟩ = false := by
          have hsz : y.size ≤ (Lib.bytesCells w12 5 y).size := by
            unfold Lib.bytesCells
            rw [Array.size_append, Array.size_map]
            exact Nat.le_add_right _ _
          unfold World.frozen?
          rw [Lib.bytesWorld_at_new]
          generalize Lib.bytesCells w12 5 y = cs at hsz
          simp; omega
        have hf13 := (hd13.below.frozen (p := ⟨w12.heap.size, K, none⟩) (by rw [Lib.bytesWorld_size]; exact Nat.lt_succ_self _)).trans hfz
        have hlt13 : w12.heap.size < w13.heap.size := by
          have h1 := hd13.below.size
          rw [Lib.bytesWorld_size] at h1
          omega
        generalize hz : (y.data.toList.getD K 0).toNat = z at hc13
        go_wp2_with (fail)
        have hbd : Below w13.heap.size w13 w13.drew := ⟨rfl, rfl, rfl, Nat.le_refl _, fun _ _ => rfl⟩
        have hCd := Kd.C_below hC13 hbd
        have hltd : w12.heap.size < w13.drew.heap.size := hlt13
        have hcd : w13.drew.cell? ⟨w12.heap.size, K, none⟩ = some (.int .u8 (z : Int)) := hc13
        have hfd : w13.drew.frozen? ⟨w12.heap.size, K, none⟩ = false := hf13
        have Hch := Lib.hid hch
        have Hz := Lib.hid hz
        have H10 := Lib.hid h10
        have HCd := Lib.hid hCd
        have Hw := Lib.hid hw12
        have Hm := Lib.hid hm
        have hd13' := hd13.below
        have hwb13 := (hw12.trans hwb).trans (hd13.below.mono (hw12.trans hwb).size)
        clear hch hz h9 h10 hK2 hK hv hm hCd hC13 hC12 hw12 hfz hd13 hwb
        have Hfar := Lib.hid (show ∀ j, j < y.size → w13.drew.cell? ⟨w12.heap.size, j, none⟩ = some (.int .u8 (y.data.toList.getD j 0).toNat) from fun j hj => (hd13'.cell (p := ⟨w12.heap.size, j, none⟩) (by rw [Lib.bytesWorld_size]; exact Nat.lt_succ_self _)).trans (Lib.bytesWorld_cell w12 5 y j hj))
        clear hd13'
        have Hbd := Lib.hid (hwb13.trans (hbd.mono hwb13.size))
        clear hbd hwb13
        go_region_with (go_at_call 29; refine (S.laws_vAt.calls A c l 10 v10 _ HCd.out hcp H10.out).mono ?_; rintro e w14 ⟨rfl, hd14⟩; have hc14 := (hd14.below.cell (p := ⟨w12.heap.size, K, none⟩) hltd).trans hcd; have hf14 := (hd14.below.frozen (p := ⟨w12.heap.size, K, none⟩) hltd).trans hfd)
        all_goals
          (obtain ⟨d, hd, hd0, hd1⟩ := wrap_byte v10 h100 h101
           rw [hd]
           obtain ⟨vb, hxv, hvne⟩ := xor_byte (y.data.toList.getD K 0) d hd0 hd1
           rw [Hz.out] at hxv
           rw [hxv]
           have hKl : K < y.data.toList.length := by rw [← size_len]; exact hKy
           have hbt := back_text w14 w12.heap.size y (grownCap w12 y.size 0 5) K vb hKy (fun j hj => (hd14.below.cell (p := ⟨w12.heap.size, j, none⟩) hltd).trans (Hfar.out j hj))
           have hwv := Hch.out K vb hKl (by
             intro h
             apply hvne
             rw [h, List.getD_eq_getElem?_getD, List.getElem?_eq_getElem hKl]
             rfl)
           have hsz2 : (ofL (y.data.toList.set K vb)).size ≤ 1048576 := by
             rw [size_len, ofL_list, List.length_set, ← size_len]; omega
           have hw14 := (Hbd.out.trans (hd14.below.mono Hbd.out.size)).setCell (p := ⟨w12.heap.size, K, none⟩) (show w.heap.size ≤ w12.heap.size from Hw.out.size) (.int .u8 (vb.toNat : Int))
           have hvb := implVerify (ofL (y.data.toList.set K vb)) hsz2 m _ ((hw14.cell (p := ⟨0, 0, none⟩) h0).trans Hm.out) (Lib.tabBelow_of_tabIs htab _ hw14)
           obtain ⟨q, hq⟩ : ∃ q, (verRes (ofL (y.data.toList.set K vb))).1 = q := ⟨_, rfl⟩
           rw [hwv, hq] at hvb
           clear hq hwv hsz2 hKl hxv hd hvne hd14 hc14 hf14 hcd hfd hltd hc13 hf13 hlt13 Hfar Hbd Hz H10 HCd Hch Hm hver hcv
           generalize w14.setCell ⟨w12.heap.size, K, none⟩ (.int .u8 (vb.toNat : Int)) = w15 at hbt hw14 hvb ⊢
           generalize ofL (y.data.toList.set K vb) = bt at hbt hvb
           go_wp2_with (go_at_call 28; refine hvb.mono ?_; rintro e w16 ⟨rfl, hb16⟩)
           all_goals (go_ret; exact ⟨rfl, hw14.trans (hb16.mono hw14.size)⟩))
      · go_wp2_with (go_at_call 28; refine (hver _ ((hw11.cell (p := ⟨0, 0, none⟩) h0).trans hm) (Lib.tabBelow_of_tabIs htab _ hw11)).mono ?_; rintro e w12 ⟨rfl, hb12⟩; refine Hid.out ?_)
        refine Lib.hid ?_
        have hw12 := hw11.trans (hb12.mono hw11.size)
        have hwb := (Lib.bytesWorld_below w12 5 y).mono hw12.size
        have hC12 := Kd.C_below hC (hw12.trans hwb)
        clear hb12 hw11
        go_wp2_with (go_at_call 29; refine (S.laws_vAt.calls A c l 9 v9 _ hC12 hcp h9).mono ?_; rintro e w13 ⟨rfl, hd13⟩; refine Hid.out ?_)
        refine Lib.hid ?_
        obtain ⟨K, hK, hKy⟩ : ∃ K : Nat, Int.tmod v9 (y.size : Int) = (K : Int) ∧ K < y.size := by
          have h1 := Int.tmod_nonneg (y.size : Int) h90
          have h2 := Int.tmod_lt_of_pos v9 (show (0 : Int) < (y.size : Int) by omega)
          exact ⟨(Int.tmod v9 (y.size : Int)).toNat, by omega, by omega⟩
        have hK2 : v9 % (y.size : Int) = (K : Int) := by rw [← hK, Int.tmod_eq_emod_of_nonneg h90]
        have hK3 : (K : Int) < (y.size : Int) := by omega
        have hK4 : (0 : Int) ≤ (K : Int) := by omega
        have hc13 := (hd13.below.cell (p := ⟨w12.heap.size, K, none⟩) (by rw [Lib.bytesWorld_size]; exact Nat.lt_succ_self _)).trans (Lib.bytesWorld_cell w12 5 y K hKy)
        have hC13 := Kd.C_below hC12 hd13.below
        have hfz : (Lib.bytesWorld w12 5 y).frozen? ⟨w12.heap.size, K, none⟩ = false := by
          have hsz : y.size ≤ (Lib.bytesCells w12 5 y).size := by
            unfold Lib.bytesCells
            rw [Array.size_append, Array.size_map]
            exact Nat.le_add_right _ _
          unfold World.frozen?
          rw [Lib.bytesWorld_at_new]
          generalize Lib.bytesCells w12 5 y = cs at hsz
          simp; omega
        have hf13 := (hd13.below.frozen (p := ⟨w12.heap.size, K, none⟩) (by rw [Lib.bytesWorld_size]; exact Nat.lt_succ_self _)).trans hfz
        have hlt13 : w12.heap.size < w13.heap.size := by
          have h1 := hd13.below.size
          rw [Lib.bytesWorld_size] at h1
          omega
        generalize hz : (y.data.toList.getD K 0).toNat = z at hc13
        go_wp2_with (fail)
        have hbd : Below w13.heap.size w13 w13.drew := ⟨rfl, rfl, rfl, Nat.le_refl _, fun _ _ => rfl⟩
        have hCd := Kd.C_below hC13 hbd
        have hltd : w12.heap.size < w13.drew.heap.size := hlt13
        have hcd : w13.drew.cell? ⟨w12.heap.size, K, none⟩ = some (.int .u8 (z : Int)) := hc13
        have hfd : w13.drew.frozen? ⟨w12.heap.size, K, none⟩ = false := hf13
        have Hch := Lib.hid hch
        have Hz := Lib.hid hz
        have H10 := Lib.hid h10
        have HCd := Lib.hid hCd
        have Hw := Lib.hid hw12
        have Hm := Lib.hid hm
        have hd13' := hd13.below
        have hwb13 := (hw12.trans hwb).trans (hd13.below.mono (hw12.trans hwb).size)
        clear hch hz h9 h10 hK2 hK hv hm hCd hC13 hC12 hw12 hfz hd13 hwb
        have Hfar := Lib.hid (show ∀ j, j < y.size → w13.drew.cell? ⟨w12.heap.size, j, none⟩ = some (.int .u8 (y.data.toList.getD j 0).toNat) from fun j hj => (hd13'.cell (p := ⟨w12.heap.size, j, none⟩) (by rw [Lib.bytesWorld_size]; exact Nat.lt_succ_self _)).trans (Lib.bytesWorld_cell w12 5 y j hj))
        clear hd13'
        have Hbd := Lib.hid (hwb13.trans (hbd.mono hwb13.size))
        clear hbd hwb13
        go_region_with (go_at_call 29; refine (S.laws_vAt.calls A c l 10 v10 _ HCd.out hcp H10.out).mono ?_; rintro e w14 ⟨rfl, hd14⟩; have hc14 := (hd14.below.cell (p := ⟨w12.heap.size, K, none⟩) hltd).trans hcd; have hf14 := (hd14.below.frozen (p := ⟨w12.heap.size, K, none⟩) hltd).trans hfd)
        all_goals
          (obtain ⟨d, hd, hd0, hd1⟩ := wrap_byte v10 h100 h101
           rw [hd]
           obtain ⟨vb, hxv, hvne⟩ := xor_byte (y.data.toList.getD K 0) d hd0 hd1
           rw [Hz.out] at hxv
           rw [hxv]
           have hKl : K < y.data.toList.length := by rw [← size_len]; exact hKy
           have hbt := back_text w14 w12.heap.size y (grownCap w12 y.size 0 5) K vb hKy (fun j hj => (hd14.below.cell (p := ⟨w12.heap.size, j, none⟩) hltd).trans (Hfar.out j hj))
           have hwv := Hch.out K vb hKl (by
             intro h
             apply hvne
             rw [h, List.getD_eq_getElem?_getD, List.getElem?_eq_getElem hKl]
             rfl)
           have hsz2 : (ofL (y.data.toList.set K vb)).size ≤ 1048576 := by
             rw [size_len, ofL_list, List.length_set, ← size_len]; omega
           have hw14 := (Hbd.out.trans (hd14.below.mono Hbd.out.size)).setCell (p := ⟨w12.heap.size, K, none⟩) (show w.heap.size ≤ w12.heap.size from Hw.out.size) (.int .u8 (vb.toNat : Int))
           have hvb := implVerify (ofL (y.data.toList.set K vb)) hsz2 m _ ((hw14.cell (p := ⟨0, 0, none⟩) h0).trans Hm.out) (Lib.tabBelow_of_tabIs htab _ hw14)
           obtain ⟨q, hq⟩ : ∃ q, (verRes (ofL (y.data.toList.set K vb))).1 = q := ⟨_, rfl⟩
           rw [hwv, hq] at hvb
           clear hq hwv hsz2 hKl hxv hd hvne hd14 hc14 hf14 hcd hfd hltd hc13 hf13 hlt13 Hfar Hbd Hz H10 HCd Hch Hm hver hcv
           generalize w14.setCell ⟨w12.heap.size, K, none⟩ (.int .u8 (vb.toNat : Int)) = w15 at hbt hw14 hvb ⊢
           generalize ofL (y.data.toList.set K vb) = bt at hbt hvb
           go_wp2_with (go_at_call 28; refine hvb.mono ?_; rintro e w16 ⟨rfl, hb16⟩)
           all_goals (go_ret; exact ⟨rfl, hw14.trans (hb16.mono hw14.size)⟩))
end Go.Proofs.YtnbcmjoimenhjaaDoor
