/- impl.box.stairs' closure at a list that is not full. -/
import Derived.Test.YtjdmboagjeldcaaWg
namespace Go.Proofs.Ytjdmboagjeldcaa
open Go.RowKit S Go.Proofs.YtjdmboagjeldcaaW.PrintWords Go.Proofs.YtjdmboagjeldcaaW.PrintLast Go.Proofs.YtjdmboagjeldcaaW.PrintMore
set_option maxHeartbeats 2000000 in
theorem inner35e (W0 w : World) (bb bo bf x y z m : Nat) (Z : Nat → Prop) (F : Nat → List (List Int)) (c : Nat) (l : List Int) (hx : x ≤ 4) (hy0 : 0 < y) (hy : y ≤ 4) (hl : l.length < x * y) (hM : mostOf y z l = (m : Int)) (hm4 : (m : Int) ≤ 4)
    (hm : Sm W0 bb bo bf x y z Z (F 0) w) (ho : OwnL w (.slice none l.length c) l) (hv : ∀ k, (Value.slice none l.length c).ownBlock = some k → Z k ∧ W0.heap.size ≤ k) (low : Low W0 bb bo bf x y z m l F)
    (h1 : ¬ y ≤ l.length) (h2 : ¬ 0 < l.length % y) :
    Calls Try.prog 35 (a35 bb bo bf (.slice none l.length c)) w (Post35 W0 bb bo bf x y z Z (F (m + 1)) w (.slice none l.length c) l) := by
  obtain ⟨c1, c2, c3⟩ := BoxAt_of hm.hb
  have hxy : x * y ≤ 4 * 4 := Nat.mul_le_mul hx hy
  obtain ⟨P, hP, hPe⟩ : ∃ P : Nat, (x : Int) * (y : Int) = (P : Int) ∧ P = x * y := ⟨x * y, by simp, rfl⟩
  rw [← hPe] at hl hxy
  have hneq : ((l.length : Int) == (P : Int)) = false := by rw [beq_eq_false_iff_ne]; omega
  have hPb : (P : Int) ≤ 16 := by omega
  have hlb2 : (l.length : Int) ≤ 16 := by omega
  have hy1 : (y : Int) ≠ 0 := by omega
  have hyN : y ≠ 0 := by omega
  have hm1 : Int.tmod (l.length : Int) (y : Int) = ((l.length % y : Nat) : Int) := (Int.ofNat_tmod _ _).symm
  have hm2 : (l.length : Int) % (y : Int) = ((l.length % y : Nat) : Int) := by simp
  have Low := Lib.hid low
  have Hv := Lib.hid hv
  clear low hv
  have hMm : (z : Int) = (m : Int) := by
    rw [← hM]; unfold mostOf most1 least
    rw [if_neg h1, if_neg h2]
  have Hm := Lib.hid hm
  have Ho := Lib.hid ho
  have HMm := Lib.hid hMm
  have h1z : ¬ (y : Int) ≤ (l.length : Int) := by omega
  have h2z : ¬ (0 : Int) < ((l.length % y : Nat) : Int) := by omega
  generalize hr : l.length % y = r at hm1 hm2 h2 h2z
  clear hm ho hPe hr hM hMm
  go_enter Try.func35, Try.ntmps35
  go_wp2_with (fail)
  simp only [HMm.out]
  go_loopw [51, 7] (fun k _ wr => ∃ j : Nat, j ≤ m + 1 ∧ k = .int .i64 j ∧ Post35 W0 bb bo bf x y z Z (F j) w (.slice none l.length c) l (.returned (.tuple #[])) wr) (fun k _ _ => m + 1 - (intOf k).toNat)
  case atStart => exact ⟨0, Nat.zero_le _, rfl, rfl, Hm.out, Ho.out, fun _ _ _ => rfl, Nat.le_refl _⟩
  case round =>
    obtain ⟨j, hj, rfl, hp⟩ := hrel
    have Hp := Lib.hid hp
    clear hp
    by_cases hjl : j < m + 1
    · have hjl2 : (j : Int) < (m : Int) + 1 := by omega
      have hj4 : (j : Int) ≤ 4 := by omega
      have hbfl : bf < wr.heap.size := lt_of_block Hp.out.sm.hf
      have cf : wr.cell? ⟨bf, 0, none⟩ = some (.func (.func 35) #[] #[.pointer (some ⟨bb, 0, none⟩), .pointer (some ⟨bo, 0, none⟩), .pointer (some ⟨bf, 0, none⟩)]) := cell_of_one Hp.out.sm.hf
      have cfa : ∀ o, (wr.alloc o).cell? ⟨bf, 0, none⟩ = some (.func (.func 35) #[] #[.pointer (some ⟨bb, 0, none⟩), .pointer (some ⟨bo, 0, none⟩), .pointer (some ⟨bf, 0, none⟩)]) := fun o => ((below_alloc (Below.refl wr.heap.size wr) o).cell (p := ⟨bf, 0, none⟩) hbfl).trans cf
      have HbA := Lib.hid (fun o : Obj => (below_drew (below_alloc (Below.refl wr.heap.size wr) o) : Below wr.heap.size wr (wr.alloc o).drew))
      have HsmA := Lib.hid (fun o : Obj => Hp.out.sm.below (HbA.out o))
      have HownA := Lib.hid (fun o : Obj => Hp.out.own.below (HbA.out o))
      obtain ⟨i3, hi3, hzr3, hsz3, hby3⟩ := info3d
      go_wp2_with (fail)
      all_goals try (exact absurd ‹wrap64 ((m : Int) + 1) ≤ (j : Int)› (wno2 hjl2 hm4))
      have hroom : ¬ l.length < c := by have := (HownA.out (.cells #[.int .i64 j] 3 (0, 0))).nil0 rfl; omega
      · go_region_law (first
          | (refine step_append_grows rfl (.tmp 55) (.tmp 57) 37 rfl 3 i3 (.int .i64 0) 1 8 Try.underlying37 hi3 hzr3 hsz3 hby3 rfl (by decide) none l.length c (l.map (Value.int .i64)) rfl (HownA.out (.cells #[.int .i64 j] 3 (0, 0))).nil0 (by simp) (HownA.out (.cells #[.int .i64 j] 3 (0, 0))).olds ⟨wr.heap.size, 0, none⟩ 1 1 [.int .i64 j] rfl rfl (lit1 wr (.int .i64 j) 3) (by intro u hu; cases List.mem_singleton.1 hu; rfl) (by omega) (by have : 1000 ≤ maxLen := (by decide); omega) (by omega) ?_; intro v' w2 hown hgr; have Hown := Lib.hid hown; obtain ⟨g2, cap2, rfl, hg2⟩ := hown.form (Nat.succ_pos _); have Hgr := Lib.hid (below_grown hgr); have cf2 := (hgr.cell_far ⟨bf, 0, none⟩ (Nat.lt_of_lt_of_le hbfl (HbA.out (.cells #[.int .i64 j] 3 (0, 0))).size) (by simp)).trans (cfa _); clear hown hgr)
          | (go_simp; go_at_call 35; refine (low_grow W0 bb bo bf x y z m l F Low.out j (by omega) Z ((wr.alloc (.cells #[.int .i64 j] 3 (0, 0))).drew) w2 (.slice none l.length c) _ (HsmA.out _) (HownA.out _) (fun k hk => (Hv.out k hk).1) Hgr.out Hown.out).mono ?_; rintro e w3 hp3; have hp4 := Hp.out.chain (hp3.from Hp.out.sm.hz (HbA.out (.cells #[.int .i64 j] 3 (0, 0)))); have he := hp4.out; subst he; have Hp4 := Lib.hid hp4))
        all_goals go_wp2_with (fail)
        all_goals go_roundw
        all_goals try (case rel => exact ⟨j + 1, by omega, by go_num, Hp4.out⟩)
        all_goals try (case measure => (simp [intOf]; omega))
    · have hjl2 : ¬ (j : Int) < (m : Int) + 1 := by omega
      have hpe : F j = F (m + 1) := by rw [show j = m + 1 by omega]
      rw [hpe] at Hp
      clear hpe
      go_wp2_with (fail)
      all_goals (try simp only [Exit.inBlock, Exit.then])
      all_goals first | (refine bodyPost_end (results_none rfl _ _ _) rfl ?_; exact Hp.out) | (exact absurd ‹(j : Int) < wrap64 ((m : Int) + 1)› (wno1 hjl2 hm4))
end Go.Proofs.Ytjdmboagjeldcaa
