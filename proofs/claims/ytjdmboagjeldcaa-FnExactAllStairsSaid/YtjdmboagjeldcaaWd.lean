/- The walk of the law FnExactAllStairs (printed by lawstairs.py), from the contract of impl.AllStairs. -/
import Derived.Test.YtjdmboagjeldcaaWc
namespace Go.Proofs.Ytjdmboagjeldcaa
open Go.RowKit S Go.Proofs.YtjdmboagjeldcaaW.PrintWords Go.Proofs.YtjdmboagjeldcaaW.PrintLast Go.Proofs.YtjdmboagjeldcaaW.PrintMore
theorem stairs_all : ((List.range 4).all fun x => (List.range 4).all fun y => (List.range 4).all fun z => decide (1000 < countC (x + 1) (y + 1) (z + 1)) || decide ((allL (y + 1) (z + 1) ((x + 1) * (y + 1)) []).length ≤ 1000)) = true := by decide +kernel
theorem stairs_small (x y z : Int) : (stairsRes x y z).1.length ≤ 1000 ∧ ∀ r ∈ (stairsRes x y z).1, r.length ≤ 16 := by
  unfold stairsRes
  cases hf : fewB x y z with
  | false => rw [if_neg (by simp)]; exact ⟨by simp, fun r hr => by cases hr⟩
  | true =>
    rw [if_pos rfl]
    unfold fewB at hf
    simp only [Bool.and_eq_true, decide_eq_true_eq] at hf
    obtain ⟨a, b, c, rfl, rfl, rfl, ha0, ha, hb0, hb, hc0, hc⟩ := valid_facts hf.1
    simp only [Int.toNat_natCast] at hf ⊢
    have h := List.all_eq_true.1 (List.all_eq_true.1 (List.all_eq_true.1 stairs_all (a - 1) (List.mem_range.2 (by omega))) (b - 1) (List.mem_range.2 (by omega))) (c - 1) (List.mem_range.2 (by omega))
    rw [show a - 1 + 1 = a by omega, show b - 1 + 1 = b by omega, show c - 1 + 1 = c by omega] at h
    simp only [Bool.or_eq_true, decide_eq_true_eq] at h
    refine ⟨by omega, fun r hr => ?_⟩
    have hab : a * b ≤ 4 * 4 := Nat.mul_le_mul ha hb
    have := all_each b c hc (a * b) [] (fun v hv => by cases hv) r hr
    simp at this
    omega
theorem tot_small : ∀ (M : List (List Int)), (∀ r ∈ M, r.length ≤ 16) → totL M ≤ 16 * M.length
  | [], _ => by simp [totL]
  | r :: rs, h => by
    have a := h r List.mem_cons_self
    have b := tot_small rs (fun x hx => h x (List.mem_cons_of_mem _ hx))
    unfold totL at b ⊢
    rw [List.map_cons, List.sum_cons, List.length_cons]; omega
set_option maxHeartbeats 2000000 in
theorem lawAllStairs (x y z : Int) (hi : ∀ (W : World), Calls Try.prog 6 #[.int .i64 x, .int .i64 y, .int .i64 z] W fun e w' => ∃ v, e = .returned (.tuple #[v, .bool (stairsRes x y z).2]) ∧ Kd.S (Kd.slice 3 (Kd.int .i64)) 37 w' W.heap.size (fun _ => True) v (stairsRes x y z).1 ∧ Below W.heap.size W w') (w : World) :
    Calls Try.prog 3 #[.int .i64 x, .int .i64 y, .int .i64 z] w fun e w' => e = .returned (.bool true) ∧ Below w.heap.size w w' := by
  have hs := spec_stairs x y z
  have hsm := stairs_small x y z
  generalize stairsRes x y z = fr at hs hi hsm
  obtain ⟨L, b⟩ := fr
  simp only at hi hsm
  have htot := tot_small L hsm.2
  have qq := Lib.hid (eqii_same L (by omega) (fun r hr => by have := hsm.2 r hr; omega) 2000000 (by omega))
  have hheld := heldss_eq L 1 (by omega) (by omega) (fun r hr => by have := hsm.2 r hr; omega) 2000000 (by omega)
  have hmss := fun (w0 w : World) (A : Option Addr) (n cap : Nat) hB hS => markSS w0 w A n cap L 1 (by omega) (by omega) (fun r hr => by have := hsm.2 r hr; omega) hB hS
  have hml := marks_len L 1
  have hMn : ¬ ((1 + totL L : Nat) : Int) < 0 := by omega
  generalize ((1 + totL L : Nat) : Int) = M at hheld hmss hMn
  generalize marksL 1 L = LM at hheld hmss hml
  have Hs := Lib.hid hs
  have Hheld := Lib.hid hheld
  have Hml := Lib.hid hml
  clear hs hheld hml hsm htot
  go_enter Try.func3, Try.ntmps3
  go_wp2_with (go_at_call 5; refine (S.spec_AllStairs.calls 3000 x y z L b _ Hs.out).mono ?_; rintro e w3 ⟨vw, rfl, hN, hb3⟩; obtain ⟨Aw, cw, rfl⟩ := Kd.N_slice hN; refine Hid.out ?_)
  refine Lib.hid ?_
  have HW := Lib.hid (hb3)
  have HN := Lib.hid (hN)
  have HN3 := Lib.hid hN
  have HW3 := HW
  clear hN hb3
  go_wp2_with (go_at_call 6; refine (hi _).mono ?_; rintro e w6 ⟨v6, rfl, hS6, hb6⟩; obtain ⟨A6, c6, rfl⟩ := Kd.S_slice hS6; refine Hid.out ?_)
  refine Lib.hid ?_
  have HW_1 := Lib.hid (HW.out.trans (hb6.mono HW.out.size))
  have HN_1 := Lib.hid (Kd.N_below HN.out hb6)
  clear HN
  have H3 := Lib.hid (hb6)
  have hS6b := Kd.S_mono (Kd.S_bound hS6) (ok' := fun k => w3.heap.size ≤ k) (fun k hk => hk.2.1)
  have HG := Lib.hid (hS6b)
  clear hS6 hS6b hb6
  have rg := Kd.S_reads' HG.out
  have rn := Kd.N_reads' HN_1.out
  go_wp2_with (go_at_call 7; refine (S.laws_eqIntSS.calls 2000000 A6 c6 L Aw cw L true _ rg.2.2 rg.2.1 rn.2.2 rn.2.1 qq.out).mono ?_; rintro e w7 ⟨rfl, hd⟩; refine Hid.out ?_)
  refine Lib.hid ?_
  clear rg rn
  have hbd := hd.below
  have HW_2 := Lib.hid (HW_1.out.trans ((hbd).mono HW_1.out.size))
  have HN_2 := Lib.hid (Kd.N_below HN_1.out hbd)
  have H3_2 := Lib.hid (H3.out.trans ((hbd).mono H3.out.size))
  have HG_2 := Lib.hid (Kd.S_below HG.out hbd)
  clear HW_1 HN_1 H3 HG
  clear hd hbd
  go_wp2_with (go_at_call 8; refine (hmss w3 _ _ _ _ H3_2.out HG_2.out).mono ?_; rintro e w15 ⟨rfl, hS15, hB15⟩; refine Hid.out ?_)
  refine Lib.hid ?_
  have H3n := Lib.hid hB15
  have HWn := Lib.hid (HW3.out.trans (hB15.mono HW3.out.size))
  have HNn := Lib.hid (Kd.N_step HN3.out (fun k hk hlt => hB15.block k hlt))
  have HGn := Lib.hid hS15
  clear hS15 hB15 HW_2 H3_2 HN_2 HG_2
  have rg := Kd.S_reads' HGn.out
  have hcl := S.laws_heldIntSS.calls 2000000 A6 c6 LM 1 M w15 (rg.1 ▸ rg.2.2) (rg.1 ▸ rg.2.1) Hheld.out
  rw [← rg.1] at hcl
  clear rg
  go_wp2_with (go_at_call 9; refine (hcl).mono ?_; rintro e w16 ⟨rfl, hd⟩; refine Hid.out ?_)
  refine Lib.hid ?_
  clear hcl
  have hbd := hd.below
  have HW_3 := Lib.hid (HWn.out.trans ((hbd).mono HWn.out.size))
  have HN_3 := Lib.hid (Kd.N_below HNn.out hbd)
  have H3_3 := Lib.hid (H3n.out.trans ((hbd).mono H3n.out.size))
  have HG_3 := Lib.hid (Kd.S_below HGn.out hbd)
  clear HWn HNn H3n HGn
  clear hd hbd
  go_wp2_with (go_at_call 6; refine (hi _).mono ?_; rintro e w19 ⟨v19, rfl, hS19, hb19⟩; obtain ⟨A19, c19, rfl⟩ := Kd.S_slice hS19; refine Hid.out ?_)
  refine Lib.hid ?_
  have HW_4 := Lib.hid (HW_3.out.trans ((hb19).mono HW_3.out.size))
  have HN_4 := Lib.hid (Kd.N_below HN_3.out hb19)
  have H3_4 := Lib.hid (H3_3.out.trans ((hb19).mono H3_3.out.size))
  have HG_4 := Lib.hid (Kd.S_below HG_3.out hb19)
  clear HW_3 HN_3 H3_3 HG_3
  have HG2 := Lib.hid (hS19)
  clear hS19 hb19
  have rg := Kd.S_reads' HG2.out
  have rn := Kd.N_reads' HN_4.out
  go_wp2_with (go_at_call 7; refine (S.laws_eqIntSS.calls 2000000 A19 c19 L Aw cw L true _ rg.2.2 rg.2.1 rn.2.2 rn.2.1 qq.out).mono ?_; rintro e w20 ⟨rfl, hd⟩; refine Hid.out ?_)
  refine Lib.hid ?_
  clear rg rn
  have hbd := hd.below
  have HW_5 := Lib.hid (HW_4.out.trans ((hbd).mono HW_4.out.size))
  have HN_5 := Lib.hid (Kd.N_below HN_4.out hbd)
  have H3_5 := Lib.hid (H3_4.out.trans ((hbd).mono H3_4.out.size))
  have HG_5 := Lib.hid (Kd.S_below HG_4.out hbd)
  have HG2_5 := Lib.hid (Kd.S_below HG2.out hbd)
  clear HW_4 HN_4 H3_4 HG_4 HG2
  clear hd hbd
  have rg := Kd.S_reads' HG_5.out
  have hcl := S.laws_heldIntSS.calls 2000000 A6 c6 LM 1 M w20 (rg.1 ▸ rg.2.2) (rg.1 ▸ rg.2.1) Hheld.out
  rw [← rg.1] at hcl
  clear rg
  go_wp2_with (go_at_call 9; refine (hcl).mono ?_; rintro e w21 ⟨rfl, hd⟩)
  all_goals (go_ret; exact ⟨rfl, HW_5.out.trans (hd.below.mono HW_5.out.size)⟩)
end Go.Proofs.Ytjdmboagjeldcaa
