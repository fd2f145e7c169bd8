/- The walk of the law FnExactFirstTable (printed by lawfirst.py). No condition. -/
import Derived.Test.YtcldfmnkeiogdaaWe
namespace Go.Proofs.Ytcldfmnkeiogdaa
open Go.RowKit S Go.Proofs.YtcldfmnkeiogdaaW.PrintWords Go.Proofs.YtcldfmnkeiogdaaW.PrintLast Go.Proofs.YtcldfmnkeiogdaaW.PrintMore
set_option maxHeartbeats 2000000 in
theorem lawFirstTable_in (A B : Option Addr) (c c2 : Nat) (rows cols : List Int) (hl : rows.length ≤ 1048576) (hl2 : cols.length ≤ 1048576) (w : World) (hc : rows.length ≤ c) (hc2 : cols.length ≤ c2) (hA : Kd.C (Kd.int .i64) w A rows.length rows) (hB : Kd.C (Kd.int .i64) w B cols.length cols) :
    Calls Try.prog 8 #[.slice A rows.length c, .slice B cols.length c2] w fun e w' => e = .returned (.bool true) ∧ Below w.heap.size w w' := by
  have t1 := Lib.hid (to_eq rows hl)
  have t2 := Lib.hid (to_eq cols hl2)
  have q1 := Lib.hid (eqi_same rows (by omega) 2000000 (by omega))
  have q2 := Lib.hid (eqi_same cols (by omega) 2000000 (by omega))
  have hs := spec_first rows cols
  have hi := fun (w : World) (b1 b2 : Nat) (k1 k2 : Nat → Prop) (A B : Option Addr) (c c2 : Nat) h1 h2 => FirstTableW (w := w) (b1 := b1) (b2 := b2) (k1 := k1) (k2 := k2) A B c c2 rows cols h1 h2
  have hsm := first_small rows cols
  generalize firstRes rows cols = fr at hs hi hsm
  obtain ⟨L, b⟩ := fr
  simp only at hi hsm
  have htot : totL L ≤ 16 := by
    have h1 := hsm.1
    have h2 := hsm.2
    unfold totL
    have : ∀ (M : List (List Int)), (∀ r ∈ M, r.length ≤ 4) → (M.map List.length).sum ≤ 4 * M.length := by
      intro M
      induction M with
      | nil => intro _; simp
      | cons r rs ih =>
        intro h
        have a := h r List.mem_cons_self
        have b := ih (fun x hx => h x (List.mem_cons_of_mem _ hx))
        rw [List.map_cons, List.sum_cons, List.length_cons]; omega
    have := this L h2
    omega
  have qq := Lib.hid (eqii_same L (by omega) (fun r hr => by have := hsm.2 r hr; omega) 2000000 (by omega))
  have hheld := heldss_eq L 1 (by omega) (by omega) (fun r hr => by have := hsm.2 r hr; omega) 2000000 (by omega)
  have hmss := fun (w0 w : World) (A : Option Addr) (n cap : Nat) hB hS => markSS w0 w A n cap L 1 (by omega) (by omega) (fun r hr => by have := hsm.2 r hr; omega) hB hS
  have hml := marks_len L 1
  have hm1 : laws_markIntS.f 2000000 rows 1 = some (((1 + rows.length : Nat) : Int), cntL 1 rows.length) := mark_eq rows 1 2000000 (by omega) (by omega)
  have hm2 := mark_eq cols (1 + rows.length) 2000000 (by omega) (by omega)
  generalize hK1 : ((1 + rows.length : Nat) : Int) = K1 at hm1 hm2
  have hK2n : ¬ ((1 + rows.length + cols.length : Nat) : Int) < 0 := by omega
  generalize ((1 + rows.length + cols.length : Nat) : Int) = K2 at hm2 hK2n
  have hMn : ¬ ((1 + totL L : Nat) : Int) < 0 := by omega
  generalize ((1 + totL L : Nat) : Int) = M at hheld hmss hMn
  generalize marksL 1 L = LM at hheld hmss hml
  generalize cntL 1 rows.length = R1 at hm1
  generalize cntL (1 + rows.length) cols.length = R2 at hm2
  have Hs := Lib.hid hs
  have Hheld := Lib.hid hheld
  have Hm1 := Lib.hid hm1
  have Hm2 := Lib.hid hm2
  have Hml := Lib.hid hml
  have HA := Lib.hid hA
  have HB := Lib.hid hB
  clear hs hheld hm1 hm2 hml hA hB hsm htot hK1
  go_enter Try.func8, Try.ntmps8
  go_wp2_with (go_at_call 18; refine (S.laws_toIntS.calls 2000000 A c rows rows _ (Kd.C_below HA.out (Below.refl _ _)) hc t1.out).mono ?_; rintro e w1 ⟨v1, rfl, hR1, hb1⟩; obtain ⟨A1, c1, rfl⟩ := Kd.R_slice hR1; refine Hid.out ?_)
  refine Lib.hid ?_
  have HW := Lib.hid (hb1)
  have HR1 := Lib.hid (hR1)
  clear hR1 hb1
  go_wp2_with (go_at_call 18; refine (S.laws_toIntS.calls 2000000 B c2 cols cols _ (Kd.C_below HB.out (HW.out)) hc2 t2.out).mono ?_; rintro e w2 ⟨v2, rfl, hR2, hb2⟩; obtain ⟨A2, c3, rfl⟩ := Kd.R_slice hR2; refine Hid.out ?_)
  refine Lib.hid ?_
  have HW_1 := Lib.hid (HW.out.trans ((hb2).mono HW.out.size))
  have HR1_1 := Lib.hid (Kd.R_below HR1.out hb2)
  clear HW HR1
  have HR2 := Lib.hid (hR2)
  clear hR2 hb2
  have ra := Kd.R_reads' HR1_1.out
  have rb := Kd.R_reads' HR2.out
  go_wp2_with (go_at_call 23; refine (S.spec_FirstTable.calls 2000000 A1 c1 rows A2 c3 cols L b _ ra.2.2 ra.2.1 rb.2.2 rb.2.1 Hs.out).mono ?_; rintro e w3 ⟨vw, rfl, hN, hb3⟩; obtain ⟨Aw, cw, rfl⟩ := Kd.N_slice hN; refine Hid.out ?_)
  refine Lib.hid ?_
  clear ra rb
  clear HR1_1
  clear HR2
  have HW_2 := Lib.hid (HW_1.out.trans ((hb3).mono HW_1.out.size))
  clear HW_1
  have HN := Lib.hid (hN)
  have HN3 := Lib.hid hN
  have HW3 := HW_2
  clear hN hb3
  go_wp2_with (go_at_call 18; refine (S.laws_toIntS.calls 2000000 A c rows rows _ (Kd.C_below HA.out (HW_2.out)) hc t1.out).mono ?_; rintro e w4 ⟨v4, rfl, hR4, hb4⟩; obtain ⟨A4, c4, rfl⟩ := Kd.R_slice hR4; refine Hid.out ?_)
  refine Lib.hid ?_
  have HW_3 := Lib.hid (HW_2.out.trans ((hb4).mono HW_2.out.size))
  have HN_3 := Lib.hid (Kd.N_below HN.out hb4)
  clear HW_2 HN
  have H3 := Lib.hid (hb4)
  have hz4 := hb4.size
  have hR4b := Kd.R_mono (Kd.R_bound hR4) (ok' := fun k => w3.heap.size ≤ k ∧ k < w4.heap.size) (fun k hk => ⟨hk.2.1, hk.2.2.1⟩)
  have HX0 := Lib.hid (hR4b)
  clear hR4 hR4b hb4
  go_wp2_with (go_at_call 18; refine (S.laws_toIntS.calls 2000000 B c2 cols cols _ (Kd.C_below HB.out (HW_3.out)) hc2 t2.out).mono ?_; rintro e w5 ⟨v5, rfl, hR5, hb5⟩; obtain ⟨A5, c5, rfl⟩ := Kd.R_slice hR5; refine Hid.out ?_)
  refine Lib.hid ?_
  have HW_4 := Lib.hid (HW_3.out.trans ((hb5).mono HW_3.out.size))
  have HN_4 := Lib.hid (Kd.N_below HN_3.out hb5)
  have H3_4 := Lib.hid (H3.out.trans ((hb5).mono H3.out.size))
  have HX0_4 := Lib.hid (Kd.R_below HX0.out hb5)
  clear HW_3 HN_3 H3 HX0
  have hz5 := hb5.size
  have hR5b := Kd.R_lower (Kd.R_mono (Kd.R_bound hR5) (ok' := fun k => w4.heap.size ≤ k ∧ k < w5.heap.size) (fun k hk => ⟨hk.2.1, hk.2.2.1⟩)) hz4
  have HX1 := Lib.hid (hR5b)
  clear hR5 hR5b hb5
  go_wp2_with (go_at_call 24; refine (hi _ _ _ _ _ A4 A5 c4 c5 HX0_4.out HX1.out).mono ?_; rintro e w6 ⟨v6, rfl, hS6, hb6⟩; obtain ⟨A6, c6, rfl⟩ := Kd.S_slice hS6; refine Hid.out ?_)
  refine Lib.hid ?_
  have HW_5 := Lib.hid (HW_4.out.trans ((hb6).mono HW_4.out.size))
  have HN_5 := Lib.hid (Kd.N_below HN_4.out hb6)
  have H3_5 := Lib.hid (H3_4.out.trans ((hb6).mono H3_4.out.size))
  have HX0_5 := Lib.hid (Kd.R_below HX0_4.out hb6)
  have HX1_5 := Lib.hid (Kd.R_below HX1.out hb6)
  clear HW_4 HN_4 H3_4 HX0_4 HX1
  have hS6b := Kd.S_lower (Kd.S_mono (Kd.S_bound hS6) (ok' := fun k => w5.heap.size ≤ k) (fun k hk => hk.2.1)) (Nat.le_trans hz4 hz5)
  have HG := Lib.hid (hS6b)
  clear hS6 hS6b hb6
  have rg := Kd.S_reads' HG.out
  have rn := Kd.N_reads' HN_5.out
  go_wp2_with (go_at_call 25; refine (S.laws_eqIntSS.calls 2000000 A6 c6 L Aw cw L true _ rg.2.2 rg.2.1 rn.2.2 rn.2.1 qq.out).mono ?_; rintro e w7 ⟨rfl, hd⟩; refine Hid.out ?_)
  refine Lib.hid ?_
  clear rg rn
  have hbd := hd.below
  have HW_6 := Lib.hid (HW_5.out.trans ((hbd).mono HW_5.out.size))
  have HN_6 := Lib.hid (Kd.N_below HN_5.out hbd)
  have H3_6 := Lib.hid (H3_5.out.trans ((hbd).mono H3_5.out.size))
  have HX0_6 := Lib.hid (Kd.R_below HX0_5.out hbd)
  have HX1_6 := Lib.hid (Kd.R_below HX1_5.out hbd)
  have HG_6 := Lib.hid (Kd.S_below HG.out hbd)
  clear HW_5 HN_5 H3_5 HX0_5 HX1_5 HG
  clear hd hbd
  go_wp2_with (go_at_call 18; refine (S.laws_toIntS.calls 2000000 A c rows rows _ (Kd.C_below HA.out (HW_6.out)) hc t1.out).mono ?_; rintro e w8 ⟨v8, rfl, hR8, hb8⟩; obtain ⟨A8, c8, rfl⟩ := Kd.R_slice hR8; refine Hid.out ?_)
  refine Lib.hid ?_
  have HW_7 := Lib.hid (HW_6.out.trans ((hb8).mono HW_6.out.size))
  have HN_7 := Lib.hid (Kd.N_below HN_6.out hb8)
  have H3_7 := Lib.hid (H3_6.out.trans ((hb8).mono H3_6.out.size))
  have HX0_7 := Lib.hid (Kd.R_below HX0_6.out hb8)
  have HX1_7 := Lib.hid (Kd.R_below HX1_6.out hb8)
  have HG_7 := Lib.hid (Kd.S_below HG_6.out hb8)
  clear HW_6 HN_6 H3_6 HX0_6 HX1_6 HG_6
  have rx := Kd.R_reads' HX0_7.out
  have ry := Kd.R_reads' hR8
  go_wp2_with (go_at_call 20; refine (S.laws_eqIntS.calls 2000000 _ _ rows _ _ rows true _ rx.2.2 rx.2.1 ry.2.2 ry.2.1 q1.out).mono ?_; rintro e w9 ⟨rfl, hd⟩; refine Hid.out ?_)
  refine Lib.hid ?_
  clear rx ry
  have hbd := hd.below
  have HW_8 := Lib.hid (HW_7.out.trans ((hbd).mono HW_7.out.size))
  have HN_8 := Lib.hid (Kd.N_below HN_7.out hbd)
  have H3_8 := Lib.hid (H3_7.out.trans ((hbd).mono H3_7.out.size))
  have HX0_8 := Lib.hid (Kd.R_below HX0_7.out hbd)
  have HX1_8 := Lib.hid (Kd.R_below HX1_7.out hbd)
  have HG_8 := Lib.hid (Kd.S_below HG_7.out hbd)
  clear HW_7 HN_7 H3_7 HX0_7 HX1_7 HG_7
  clear hd hbd
  clear hR8 hb8
  go_wp2_with (go_at_call 18; refine (S.laws_toIntS.calls 2000000 B c2 cols cols _ (Kd.C_below HB.out (HW_8.out)) hc2 t2.out).mono ?_; rintro e w10 ⟨v10, rfl, hR10, hb10⟩; obtain ⟨A10, c10, rfl⟩ := Kd.R_slice hR10; refine Hid.out ?_)
  refine Lib.hid ?_
  have HW_9 := Lib.hid (HW_8.out.trans ((hb10).mono HW_8.out.size))
  have HN_9 := Lib.hid (Kd.N_below HN_8.out hb10)
  have H3_9 := Lib.hid (H3_8.out.trans ((hb10).mono H3_8.out.size))
  have HX0_9 := Lib.hid (Kd.R_below HX0_8.out hb10)
  have HX1_9 := Lib.hid (Kd.R_below HX1_8.out hb10)
  have HG_9 := Lib.hid (Kd.S_below HG_8.out hb10)
  clear HW_8 HN_8 H3_8 HX0_8 HX1_8 HG_8
  have rx := Kd.R_reads' HX1_9.out
  have ry := Kd.R_reads' hR10
  go_wp2_with (go_at_call 20; refine (S.laws_eqIntS.calls 2000000 _ _ cols _ _ cols true _ rx.2.2 rx.2.1 ry.2.2 ry.2.1 q2.out).mono ?_; rintro e w11 ⟨rfl, hd⟩; refine Hid.out ?_)
  refine Lib.hid ?_
  clear rx ry
  have hbd := hd.below
  have HW_10 := Lib.hid (HW_9.out.trans ((hbd).mono HW_9.out.size))
  have HN_10 := Lib.hid (Kd.N_below HN_9.out hbd)
  have H3_10 := Lib.hid (H3_9.out.trans ((hbd).mono H3_9.out.size))
  have HX0_10 := Lib.hid (Kd.R_below HX0_9.out hbd)
  have HX1_10 := Lib.hid (Kd.R_below HX1_9.out hbd)
  have HG_10 := Lib.hid (Kd.S_below HG_9.out hbd)
  clear HW_9 HN_9 H3_9 HX0_9 HX1_9 HG_9
  clear hd hbd
  clear hR10 hb10
  go_wp2_with (go_at_call 26; refine (S.laws_markIntS.calls 2000000 (fun k => w3.heap.size ≤ k ∧ k < w4.heap.size) _ rows 1 _ _ w3 _ H3_10.out HX0_10.out Hm1.out).mono ?_; rintro e w12 ⟨rfl, _, hB12, hK12⟩; refine Hid.out ?_)
  refine Lib.hid ?_
  have HWn := Lib.hid (HW3.out.trans (hB12.mono HW3.out.size))
  have H3_11 := Lib.hid hB12
  have HW_11 := HWn
  clear HWn
  have HX1_11 := Lib.hid (Kd.R_kept HX1_10.out hK12 (fun k hk h => by omega))
  have HG_11 := Lib.hid (Kd.S_kept HG_10.out hK12 (fun k hk h => by omega))
  have HN_11 := Lib.hid (Kd.N_step HN3.out (fun k hk hlt => hB12.block k hlt))
  clear HW_10 H3_10 HX1_10 HG_10 HN_10
  clear HX0_10 hB12 hK12
  go_wp2_with (go_at_call 26; refine (S.laws_markIntS.calls 2000000 (fun k => w4.heap.size ≤ k ∧ k < w5.heap.size) _ cols K1 _ _ w3 _ H3_11.out HX1_11.out Hm2.out).mono ?_; rintro e w13 ⟨rfl, _, hB13, hK13⟩; refine Hid.out ?_)
  refine Lib.hid ?_
  have HWn := Lib.hid (HW3.out.trans (hB13.mono HW3.out.size))
  have H3_12 := Lib.hid hB13
  have HW_12 := HWn
  clear HWn
  have HG_12 := Lib.hid (Kd.S_kept HG_11.out hK13 (fun k hk h => by omega))
  have HN_12 := Lib.hid (Kd.N_step HN3.out (fun k hk hlt => hB13.block k hlt))
  clear HW_11 H3_11 HG_11 HN_11
  clear HX1_11 hB13 hK13
  have rg := Kd.S_reads' HG_12.out
  have rn := Kd.N_reads' HN_12.out
  go_wp2_with (go_at_call 25; refine (S.laws_eqIntSS.calls 2000000 A6 c6 L Aw cw L true _ rg.2.2 rg.2.1 rn.2.2 rn.2.1 qq.out).mono ?_; rintro e w14 ⟨rfl, hd⟩; refine Hid.out ?_)
  refine Lib.hid ?_
  clear rg rn
  have hbd := hd.below
  have HW_13 := Lib.hid (HW_12.out.trans ((hbd).mono HW_12.out.size))
  have HN_13 := Lib.hid (Kd.N_below HN_12.out hbd)
  have H3_13 := Lib.hid (H3_12.out.trans ((hbd).mono H3_12.out.size))
  have HG_13 := Lib.hid (Kd.S_below HG_12.out hbd)
  clear HW_12 HN_12 H3_12 HG_12
  clear hd hbd
  have hSg := Kd.S_mono HG_13.out (ok' := fun k => w3.heap.size ≤ k) (fun k hk => by omega)
  go_wp2_with (go_at_call 27; refine (hmss w3 _ _ _ _ H3_13.out hSg).mono ?_; rintro e w15 ⟨rfl, hS15, hB15⟩; refine Hid.out ?_)
  refine Lib.hid ?_
  clear hSg
  have HWn := Lib.hid (HW3.out.trans (hB15.mono HW3.out.size))
  have H3_14 := Lib.hid hB15
  have HW_14 := HWn
  clear HWn
  have HN_14 := Lib.hid (Kd.N_step HN3.out (fun k hk hlt => hB15.block k hlt))
  clear HW_13 H3_13 HN_13
  clear HG_13
  have HG := Lib.hid (hS15)
  clear hS15 hB15
  have rg := Kd.S_reads' HG.out
  have hcl := S.laws_heldIntSS.calls 2000000 A6 c6 LM 1 M w15 (rg.1 ▸ rg.2.2) (rg.1 ▸ rg.2.1) Hheld.out
  rw [← rg.1] at hcl
  clear rg
  go_wp2_with (go_at_call 28; refine (hcl).mono ?_; rintro e w16 ⟨rfl, hd⟩; refine Hid.out ?_)
  refine Lib.hid ?_
  clear hcl
  have hbd := hd.below
  have HW_15 := Lib.hid (HW_14.out.trans ((hbd).mono HW_14.out.size))
  have HN_15 := Lib.hid (Kd.N_below HN_14.out hbd)
  have H3_15 := Lib.hid (H3_14.out.trans ((hbd).mono H3_14.out.size))
  have HG_15 := Lib.hid (Kd.S_below HG.out hbd)
  clear HW_14 HN_14 H3_14 HG
  clear hd hbd
  go_wp2_with (go_at_call 18; refine (S.laws_toIntS.calls 2000000 A c rows rows _ (Kd.C_below HA.out (HW_15.out)) hc t1.out).mono ?_; rintro e w17 ⟨v17, rfl, hR17, hb17⟩; obtain ⟨A17, c17, rfl⟩ := Kd.R_slice hR17; refine Hid.out ?_)
  refine Lib.hid ?_
  have HW_16 := Lib.hid (HW_15.out.trans ((hb17).mono HW_15.out.size))
  have HN_16 := Lib.hid (Kd.N_below HN_15.out hb17)
  have H3_16 := Lib.hid (H3_15.out.trans ((hb17).mono H3_15.out.size))
  have HG_16 := Lib.hid (Kd.S_below HG_15.out hb17)
  clear HW_15 HN_15 H3_15 HG_15
  have HY0 := Lib.hid (hR17)
  clear hR17 hb17
  go_wp2_with (go_at_call 18; refine (S.laws_toIntS.calls 2000000 B c2 cols cols _ (Kd.C_below HB.out (HW_16.out)) hc2 t2.out).mono ?_; rintro e w18 ⟨v18, rfl, hR18, hb18⟩; obtain ⟨A18, c18, rfl⟩ := Kd.R_slice hR18; refine Hid.out ?_)
  refine Lib.hid ?_
  have HW_17 := Lib.hid (HW_16.out.trans ((hb18).mono HW_16.out.size))
  have HN_17 := Lib.hid (Kd.N_below HN_16.out hb18)
  have H3_17 := Lib.hid (H3_16.out.trans ((hb18).mono H3_16.out.size))
  have HG_17 := Lib.hid (Kd.S_below HG_16.out hb18)
  have HY0_17 := Lib.hid (Kd.R_below HY0.out hb18)
  clear HW_16 HN_16 H3_16 HG_16 HY0
  have HY1 := Lib.hid (hR18)
  clear hR18 hb18
  go_wp2_with (go_at_call 24; refine (hi _ _ _ _ _ A17 A18 c17 c18 HY0_17.out HY1.out).mono ?_; rintro e w19 ⟨v19, rfl, hS19, hb19⟩; obtain ⟨A19, c19, rfl⟩ := Kd.S_slice hS19; refine Hid.out ?_)
  refine Lib.hid ?_
  clear HY0_17
  clear HY1
  have HW_18 := Lib.hid (HW_17.out.trans ((hb19).mono HW_17.out.size))
  have HN_18 := Lib.hid (Kd.N_below HN_17.out hb19)
  have H3_18 := Lib.hid (H3_17.out.trans ((hb19).mono H3_17.out.size))
  have HG_18 := Lib.hid (Kd.S_below HG_17.out hb19)
  clear HW_17 HN_17 H3_17 HG_17
  have HG2 := Lib.hid (hS19)
  clear hS19 hb19
  have rg := Kd.S_reads' HG2.out
  have rn := Kd.N_reads' HN_18.out
  go_wp2_with (go_at_call 25; refine (S.laws_eqIntSS.calls 2000000 A19 c19 L Aw cw L true _ rg.2.2 rg.2.1 rn.2.2 rn.2.1 qq.out).mono ?_; rintro e w20 ⟨rfl, hd⟩; refine Hid.out ?_)
  refine Lib.hid ?_
  clear rg rn
  have hbd := hd.below
  have HW_19 := Lib.hid (HW_18.out.trans ((hbd).mono HW_18.out.size))
  have HN_19 := Lib.hid (Kd.N_below HN_18.out hbd)
  have H3_19 := Lib.hid (H3_18.out.trans ((hbd).mono H3_18.out.size))
  have HG_19 := Lib.hid (Kd.S_below HG_18.out hbd)
  have HG2_19 := Lib.hid (Kd.S_below HG2.out hbd)
  clear HW_18 HN_18 H3_18 HG_18 HG2
  clear hd hbd
  have rg := Kd.S_reads' HG_19.out
  have hcl := S.laws_heldIntSS.calls 2000000 A6 c6 LM 1 M w20 (rg.1 ▸ rg.2.2) (rg.1 ▸ rg.2.1) Hheld.out
  rw [← rg.1] at hcl
  clear rg
  go_wp2_with (go_at_call 28; refine (hcl).mono ?_; rintro e w21 ⟨rfl, hd⟩)
  all_goals (go_ret; exact ⟨rfl, HW_19.out.trans (hd.below.mono HW_19.out.size)⟩)
theorem lawFirstTable (A B : Option Addr) (c c2 : Nat) (rows cols : List Int) (w : World) (hc : rows.length ≤ c) (hc2 : cols.length ≤ c2) (hA : Kd.C (Kd.int .i64) w A rows.length rows) (hB : Kd.C (Kd.int .i64) w B cols.length cols) :
    Calls Try.prog 8 #[.slice A rows.length c, .slice B cols.length c2] w fun e w' => e = .returned (.bool true) ∧ Below w.heap.size w w' := by
  by_cases hl : rows.length ≤ 1048576
  · by_cases hl2 : cols.length ≤ 1048576
    · exact lawFirstTable_in A B c c2 rows cols hl hl2 w hc hc2 hA hB
    · clear hA hB
      go_enter Try.func8, Try.ntmps8
      go_wp2_with (fail)
      all_goals first | (exfalso; simp at *; omega) | (go_ret; exact ⟨rfl, Below.refl _ _⟩)
  · clear hA hB
    go_enter Try.func8, Try.ntmps8
    go_wp2_with (fail)
    all_goals first | (exfalso; simp at *; omega) | (go_ret; exact ⟨rfl, Below.refl _ _⟩)
end Go.Proofs.Ytcldfmnkeiogdaa
