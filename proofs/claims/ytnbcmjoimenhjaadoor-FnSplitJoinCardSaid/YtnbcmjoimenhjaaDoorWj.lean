/- What impl.JoinStrings returns, for every list of texts within the law's bound. No condition beyond the bounds. -/
import Derived.Test.YtnbcmjoimenhjaaDoorNj
import Derived.Test.YtnbcmjoimenhjaaDoorShC
import Derived.Shelf.Strings.OnBuilder
import Derived.WalkKit
import Derived.BigCall
import Derived.LoopTactic
import Derived.Lib.Hide
namespace Go.Proofs.YtnbcmjoimenhjaaDoor
open Go.RowKit S Go.Proofs.YtnbcmjoimenhjaaDoorW.PrintWords Go.Proofs.YtnbcmjoimenhjaaDoorW.PrintLast Go.Proofs.YtnbcmjoimenhjaaDoorW.PrintMore
theorem tot_mono (l : List ByteArray) (i : Nat) (h : i < l.length) : tot (l.take (i + 1)) = tot (l.take i) + (l.getD i ByteArray.empty).size := tot_snoc l i h
theorem contains_c (s sep : ByteArray) (h1 : sep.size = 1) (w : World) : Calls Tryd.prog 40 #[.string s, .string sep] w fun e w' => e = .returned (.bool (s.data.toList.contains (sep.data.toList.headD 0))) ∧ w' = w := by
  have h := Any.strings_Contains_one Tryd.lays144 s (sep.data.toList.headD 0) w
  rw [index_contains, ← one_byte sep h1] at h
  exact h
theorem implJoin_bad (ad : Addr) (c : Nat) (l : List ByteArray) (sep : ByteArray) (h1 : sep.size = 1) (hl : l.length ≤ 2000000) (ht : tot l ≤ 2000000) (w : World) (hC : Kd.C Kd.string w (some ad) l.length l)
    (j : Nat) (hj : j < l.length) (hb : (l.getD j ByteArray.empty).data.toList.contains (sep.data.toList.headD 0) = true ∨ 4000 < tot (l.take (j + 1)) + (l.length - 1)) :
    Calls Tryd.prog 14 #[.slice (some ad) l.length c, .string sep] w fun e w' => e = .returned (.tuple #[.string ⟨#[]⟩, .bool false]) ∧ Below w.heap.size w w' := by
  have hcon := fun s => contains_c s sep h1 w
  have hcell : ∀ k : Nat, k < l.length → w.cell? (ad.add k) = some (.string (l.getD k ByteArray.empty)) := fun k hk => by
    obtain ⟨ad', e, h⟩ := Kd.at_string hC (k : Int) (by omega) (by omega)
    injection e with e
    subst e
    rw [rd_eq, Int.toNat_natCast] at h
    exact h
  obtain ⟨S, hS⟩ : ∃ S : Nat → Nat, S = fun k => l.length - 1 + tot (l.take k) := ⟨_, rfl⟩
  have hS0 : ((l.length : Int) - 1) = ((S 0 : Nat) : Int) := by rw [hS]; simp [tot]; omega
  have hS1 : ∀ k, k < l.length → Hid (S (k + 1) = S k + (l.getD k ByteArray.empty).size ∧ S (k + 1) ≤ 4000000) := fun k hk => Lib.hid (by
    have h1 := tot_snoc l k hk
    have h2 := tot_le l (k + 1)
    rw [hS]; simp only; omega)
  have hbad : (l.getD j ByteArray.empty).data.toList.contains (sep.data.toList.headD 0) = true ∨ 4000 < S (j + 1) := by
    rcases hb with hb | hb
    · exact Or.inl hb
    · right; rw [hS]; simp only; omega
  have hpos : 0 < l.length := by omega
  have hz : ((l.length : Int) == 0) = false := by rw [beq_eq_false_iff_ne]; omega
  clear hC hS
  go_enter Tryd.func14, Tryd.ntmps14
  go_wp2_with (fail)
  clear hS0
  go_loop [6, 22] (fun t i => ∃ k : Nat, k ≤ j ∧ i = .int .i64 k ∧ t = .int .i64 ((S k : Nat) : Int)) (fun _ i => l.length - (intOf i).toNat)
  case atStart => exact ⟨0, Nat.zero_le _, rfl, rfl⟩
  case round =>
    obtain ⟨k, hk, rfl, rfl⟩ := hrel
    have hc := hcell k (by omega)
    have hcc := hcon (l.getD k ByteArray.empty)
    have hs1 := (hS1 k (by omega)).out
    have hrel : k = j → (l.getD k ByteArray.empty).data.toList.contains (sep.data.toList.headD 0) = true ∨ 4000 < S (k + 1) := fun e => by rw [e]; exact hbad
    clear hcell hcon hS1 hbad hb
    generalize l.getD k ByteArray.empty = p at hc hcc hs1 hrel
    generalize S k = sk at hs1 ⊢
    generalize p.data.toList.contains (sep.data.toList.headD 0) = b at hcc hrel
    go_wp2_with (first | (go_at_call 40; refine hcc.mono ?_; rintro e w' ⟨rfl, rfl⟩))
    all_goals first
      | (exfalso; omega)
      | (go_ret2; exact ⟨rfl, Below.refl _ _⟩)
      | (rename_i hx
         have hkj : k < j := by
           rcases Nat.lt_or_ge k j with h | h
           · exact h
           · rcases hrel (by omega) with h2 | h2
             · rw [hx.2] at h2; cases h2
             · omega
         refine ⟨⟨k + 1, by omega, by simp, ?_⟩, ?_⟩
         · rw [hs1.1]; simp
         · simp [intOf]; omega)
theorem builder_ok : Builder.Extra Tryd.prog Tryd.lays156_ren := {
  sizeBuilder := by kernel_rfl
  liesBuilder := by kernel_rfl
  t5 := Tryd.underlying5
  a5 := Tryd.isAgg5
  z5 := Tryd.sizeOf5
  v5 := Tryd.zeroValue5
  infoByte := by kernel_rfl
  cellsByte := by kernel_rfl
  sizeByte := by kernel_rfl
  neB5 := by decide }
theorem implJoin_good (bk off c : Nat) (l : List ByteArray) (sep : ByteArray) (hg : goodJ l sep) (w : World) (hbk : bk < w.heap.size) (hcp : l.length ≤ c) (hC : Kd.C Kd.string w (some ⟨bk, off, none⟩) l.length l) :
    Calls Tryd.prog 14 #[.slice (some ⟨bk, off, none⟩) l.length c, .string sep] w fun e w' => e = .returned (.tuple #[.string (outAt l sep l.length), .bool true]) ∧ Below w.heap.size w w' := by
  have h1 := hg.1
  have hcon := fun s => contains_c s sep h1 w
  have hcell : ∀ k : Nat, k < l.length → w.cell? ⟨bk, off + k, none⟩ = some (.string (l.getD k ByteArray.empty)) := fun k hk => by
    obtain ⟨ad', e, h⟩ := Kd.at_string hC (k : Int) (by omega) (by omega)
    injection e with e
    subst e
    rw [rd_eq, Int.toNat_natCast] at h
    have e : (⟨bk, off, none⟩ : Addr).add k = ⟨bk, off + k, none⟩ := by cases k <;> simp [Addr.add]
    rw [e] at h
    exact h
  have hpos : 0 < l.length := List.length_pos_iff.2 hg.2.1
  have hlen : tot l + (l.length - 1) ≤ 4000 := hg.2.2.2
  obtain ⟨S, hS⟩ : ∃ S : Nat → Nat, S = fun k => l.length - 1 + tot (l.take k) := ⟨_, rfl⟩
  have hS0 : ((l.length : Int) - 1) = ((S 0 : Nat) : Int) := by rw [hS]; simp [tot]; omega
  have hS1 : ∀ k, k < l.length → Hid (S (k + 1) = S k + (l.getD k ByteArray.empty).size ∧ S (k + 1) ≤ 4000) := fun k hk => Lib.hid (by
    have h1 := tot_snoc l k hk
    have h2 := tot_le l (k + 1)
    rw [hS]; simp only; omega)
  have hno : ∀ k, k < l.length → (l.getD k ByteArray.empty).data.toList.contains (sep.data.toList.headD 0) = false := fun k hk => hg.2.2.1 _ (getD_mem l k hk)
  have hout : (Lib.join (l.map (·.data.toList)) sep.data.toList) = (outAt l sep l.length).data.toList := by
    have := out_join l sep l.length (Nat.le_refl _)
    rw [List.take_length] at this
    exact this.symm
  have hjl : (Lib.join (l.map (·.data.toList)) sep.data.toList).length ≤ 140737488355328 := by
    rw [hout, ← size_len, out_size l sep h1 _ (Nat.le_refl _), List.take_length]; omega
  have hjoin0 := Any.strings_Join Tryd.lays156 (builder_ok) bk off c l sep w (fun k x hx => by
    obtain ⟨hk, e⟩ := List.getElem?_eq_some_iff.1 hx
    rw [hcell k hk, show l.getD k ByteArray.empty = x by simp [List.getD_eq_getElem?_getD, List.getElem?_eq_getElem hk, e]]) hbk (by omega) hcp hjl
  have hjoin : Calls Tryd.prog 41 #[.slice (some ⟨bk, off, none⟩) l.length c, .string sep] w fun e w' => e = .returned (.string (outAt l sep l.length)) ∧ Below w.heap.size w w' := by
    rw [hout] at hjoin0
    exact hjoin0
  clear hjoin0
  have hz : ((l.length : Int) == 0) = false := by rw [beq_eq_false_iff_ne]; omega
  have hlb : l.length ≤ 4001 := by omega
  clear hC hS hg hout hjl
  go_enter Tryd.func14, Tryd.ntmps14
  go_wp2_with (fail)
  clear hS0
  go_loop [6, 22] (fun t i => ∃ k : Nat, k ≤ l.length ∧ i = .int .i64 k ∧ t = .int .i64 ((S k : Nat) : Int)) (fun _ i => l.length - (intOf i).toNat)
  case atStart => exact ⟨0, Nat.zero_le _, rfl, rfl⟩
  case round =>
    obtain ⟨k, hk, rfl, rfl⟩ := hrel
    have hc : k < l.length → w.cell? ⟨bk, off + k, none⟩ = some (.string (l.getD k ByteArray.empty)) := hcell k
    have hcc := hcon (l.getD k ByteArray.empty)
    have hs1 := hS1 k
    have hb := hno k
    have hs2 : k < l.length → (S k : Int) + ((l.getD k ByteArray.empty).size : Int) ≤ 4000 := fun h => by have := (hs1 h).out; omega
    clear hcell hcon hS1 hno
    generalize l.getD k ByteArray.empty = p at hc hcc hs1 hb hs2
    generalize S k = sk at hs1 hs2 ⊢
    generalize p.data.toList.contains (sep.data.toList.headD 0) = b at hcc hb
    go_wp2_with (first | (go_at_call 40; refine hcc.mono ?_; rintro e w' ⟨rfl, rfl⟩) | (go_at_call 41; refine hjoin.mono ?_; rintro e w' ⟨rfl, hbel⟩))
    all_goals first
      | (go_ret2; exact ⟨rfl, hbel⟩)
      | (exfalso; omega)
      | (have hs3 := (hs1 (by omega)).out
         refine ⟨⟨k + 1, by omega, by simp, ?_⟩, ?_⟩
         · rw [hs3.1]; simp
         · simp [intOf]; omega)
theorem implJoin_one (A : Option Addr) (n c : Nat) (sep : ByteArray) (h : ¬ (sep.size = 1 ∧ 0 < n)) (w : World) :
    Calls Tryd.prog 14 #[.slice A n c, .string sep] w fun e w' => e = .returned (.tuple #[.string ⟨#[]⟩, .bool false]) ∧ Below w.heap.size w w' := by
  by_cases hn : 0 < n
  · have h1 : ((sep.size : Int) == 1) = false := by rw [beq_eq_false_iff_ne]; omega
    have hz : ((n : Int) == 0) = false := by rw [beq_eq_false_iff_ne]; omega
    have h1' : ¬ sep.size = 1 := by omega
    clear h hn
    go_enter Tryd.func14, Tryd.ntmps14
    go_wp2_with (fail)
    all_goals (go_ret2; exact ⟨rfl, Below.refl _ _⟩)
  · have hz : n = 0 := by omega
    subst hz
    clear h hn
    go_enter Tryd.func14, Tryd.ntmps14
    go_wp2_with (fail)
    all_goals (go_ret2; exact ⟨rfl, Below.refl _ _⟩)
/-- what impl.JoinStrings returns -/
theorem implJoin {w : World} (A : Option Addr) (hA : ∀ a, A = some a → a.spot = none ∧ a.block < w.heap.size) (c : Nat) (l : List ByteArray) (sep : ByteArray) (hl : l.length ≤ 2000000) (ht : tot l ≤ 2000000) (hcp : l.length ≤ c) (hC : Kd.C Kd.string w A l.length l) :
    Calls Tryd.prog 14 #[.slice A l.length c, .string sep] w fun e w' => e = .returned (.tuple #[.string (joinRes l sep).1, .bool (joinRes l sep).2]) ∧ Below w.heap.size w w' := by
  unfold joinRes
  by_cases hg : goodJ l sep
  · rw [if_pos hg]
    obtain ⟨ad, rfl, _⟩ := hC.2.2 (List.length_pos_iff.2 hg.2.1)
    obtain ⟨h1, h2⟩ := hA ad rfl
    obtain ⟨bk, off, sp⟩ := ad
    simp only at h1
    subst h1
    exact implJoin_good bk off c l sep hg w h2 hcp hC
  · rw [if_neg hg]
    by_cases h1 : sep.size = 1 ∧ 0 < l.length
    · obtain ⟨ad, rfl, _⟩ := hC.2.2 h1.2
      rcases bad_at l sep h1.1 (List.length_pos_iff.1 h1.2) hg with ⟨j, hj, hc⟩ | h4
      · exact implJoin_bad ad c l sep h1.1 hl ht w hC j hj (Or.inl hc)
      · refine implJoin_bad ad c l sep h1.1 hl ht w hC (l.length - 1) (by omega) (Or.inr ?_)
        rw [show l.length - 1 + 1 = l.length by omega, List.take_length]; omega
    · exact implJoin_one A l.length c sep h1 w
end Go.Proofs.YtnbcmjoimenhjaaDoor
