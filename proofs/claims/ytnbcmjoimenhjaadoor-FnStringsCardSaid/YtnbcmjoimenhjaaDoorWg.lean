/- The draws of the law SplitJoin: what they return is bounded. No condition. -/
import Derived.Test.YtnbcmjoimenhjaaDoorNf
import Derived.Lib.Hide
import Derived.LoopTactic
namespace Go.Proofs.YtnbcmjoimenhjaaDoor
open Go.RowKit S Go.Proofs.YtnbcmjoimenhjaaDoorW.PrintWords Go.Proofs.YtnbcmjoimenhjaaDoorW.PrintLast Go.Proofs.YtnbcmjoimenhjaaDoorW.PrintMore
theorem C_lit (w : World) (L : List ByteArray) (hL : L.length ≤ 1000) : Kd.C Kd.string (w.alloc (.cells (L.map Value.string).toArray 9)) (some ⟨w.heap.size, 0, none⟩) L.length L := by
  refine ⟨rfl, by omega, fun _ => ⟨_, rfl, fun j p hp => ⟨[.string p], rfl, rfl, fun i u hu => ?_⟩⟩⟩
  cases i with
  | zero =>
    simp only [List.getElem?_cons_zero, Option.some.injEq] at hu
    subst hu
    have e : j * Kd.string.sz + 0 = j := by show j * 1 + 0 = j; omega
    rw [e]
    have ea : (⟨w.heap.size, 0, none⟩ : Addr).add j = ⟨w.heap.size, j, none⟩ := by cases j <;> simp [Addr.add]
    rw [ea]
    have hb : (w.alloc (.cells (L.map Value.string).toArray 9)).heap[w.heap.size]? = some (.cells (L.map Value.string).toArray 9 (0, 0)) := by simp only [World.alloc]; rw [Array.getElem?_push, if_pos rfl]
    unfold World.cell?
    rw [hb]
    simp [hp]
  | succ i => simp at hu
theorem drawSplit (A : Option Addr) (c : Nat) (l : List Int) (hb : ∀ x ∈ l, 0 ≤ x ∧ x ≤ 255) (w : World) (hC : Kd.C (Kd.int .u8) w A l.length l) :
    Calls Tryd.prog 11 #[.slice A l.length c] w fun e w' => (∃ s sep, e = .returned (.tuple #[.string s, .string sep]) ∧ s.size ≤ 10 ∧ sep.size ≤ 2) ∧ Below w.heap.size w w' := by
  obtain ⟨t1, a1, s1, h1, hz1, ha1, hb1⟩ := any1_ok l hb 0 0 (by omega) (by omega)
  obtain ⟨t2, a2, s2, h2, hm2, ha2, hb2⟩ := of_ok l hb a1 s1 [(⟨#[44]⟩ : ByteArray), ⟨#[44]⟩, ⟨#[32]⟩, ⟨#[]⟩, ⟨#[44, 44]⟩] (by omega) (by omega) (by decide) (by decide)
  have hz2 : t2.size ≤ 2 := by
    simp only [List.mem_cons, List.not_mem_nil, or_false] at hm2
    rcases hm2 with rfl | rfl | rfl | rfl | rfl <;> decide
  go_enter Tryd.func11, Tryd.ntmps11
  have hI : IsS48 w (w.alloc (.cells #[.slice A l.length c, .int .i64 0, .int .u64 0] 48)) w.heap.size l 0 0 := ⟨A, c, by simp only [World.alloc]; rw [Array.getElem?_push, if_pos rfl], Nat.le_refl _, hC⟩
  have hB : Below w.heap.size w (w.alloc (.cells #[.slice A l.length c, .int .i64 0, .int .u64 0] 48)) := below_alloc (Below.refl _ _) _
  go_wp2_with (go_at_call 35; refine (S.spec_l1Cur_any1.calls w.heap.size l 0 0 t1 a1 s1 w _ hI hB h1).mono ?_; rintro e w1 ⟨rfl, hI1, hB1, hK1⟩; refine Hid.out ?_)
  refine Lib.hid ?_
  clear hI hB
  have hlt := IsS48.lt hI1
  have hCl := C_lit w1 [(⟨#[44]⟩ : ByteArray), ⟨#[44]⟩, ⟨#[32]⟩, ⟨#[]⟩, ⟨#[44, 44]⟩] (by decide)
  have hI2 := IsS48.alloc hI1 (.cells ([(⟨#[44]⟩ : ByteArray), ⟨#[44]⟩, ⟨#[32]⟩, ⟨#[]⟩, ⟨#[44, 44]⟩].map Value.string).toArray 9)
  have hB2 := below_alloc hB1 (.cells ([(⟨#[44]⟩ : ByteArray), ⟨#[44]⟩, ⟨#[32]⟩, ⟨#[]⟩, ⟨#[44, 44]⟩].map Value.string).toArray 9)
  go_wp2_with (go_at_call 36; refine (S.spec_l1Cur_of.calls w.heap.size l a1 s1 (some ⟨w1.heap.size, 0, none⟩) 5 [(⟨#[44]⟩ : ByteArray), ⟨#[44]⟩, ⟨#[32]⟩, ⟨#[]⟩, ⟨#[44, 44]⟩] t2 a2 s2 w _ hI2 hB2 hCl (by decide) (fun ad h _ => by injection h with h; subst h; simp only; omega) h2).mono ?_; rintro e w2 ⟨rfl, hI3, hB3, hK3⟩)
  all_goals (go_ret2; exact ⟨⟨_, _, rfl, hz1, hz2⟩, hB3⟩)
theorem drawLess (A : Option Addr) (c : Nat) (l : List Int) (hb : ∀ x ∈ l, 0 ≤ x ∧ x ≤ 255) (w : World) (hC : Kd.C (Kd.int .u8) w A l.length l) :
    Calls Tryd.prog 16 #[.slice A l.length c] w fun e w' => (∃ s t, e = .returned (.tuple #[.string s, .string t])) ∧ Below w.heap.size w w' := by
  obtain ⟨t1, a1, s1, h1, hz1, ha1, hb1⟩ := any1_ok l hb 0 0 (by omega) (by omega)
  obtain ⟨t2, a2, s2, h2, hz2, ha2, hb2⟩ := any1_ok l hb a1 s1 (by omega) (by omega)
  have hI : IsS48 w (w.alloc (.cells #[.slice A l.length c, .int .i64 0, .int .u64 0] 48)) w.heap.size l 0 0 := ⟨A, c, by simp only [World.alloc]; rw [Array.getElem?_push, if_pos rfl], Nat.le_refl _, hC⟩
  have hB : Below w.heap.size w (w.alloc (.cells #[.slice A l.length c, .int .i64 0, .int .u64 0] 48)) := below_alloc (Below.refl _ _) _
  go_enter Tryd.func16, Tryd.ntmps16
  go_wp2_with (go_at_call 35; refine (S.spec_l1Cur_any1.calls w.heap.size l 0 0 t1 a1 s1 w _ hI hB h1).mono ?_; rintro e w1 ⟨rfl, hI1, hB1, hK1⟩; refine Hid.out ?_)
  refine Lib.hid ?_
  clear hI hB
  go_wp2_with (go_at_call 35; refine (S.spec_l1Cur_any1.calls w.heap.size l a1 s1 t2 a2 s2 w _ hI1 hB1 h2).mono ?_; rintro e w2 ⟨rfl, hI3, hB3, hK3⟩)
  all_goals (go_ret2; exact ⟨⟨_, _, rfl⟩, hB3⟩)
theorem info5 : (Tryd.prog.info? 5).map (fun i => (i.zero, i.size, i.bytes)) = some (some (.int .u8 0), 1, 1) := by kernel_rfl
set_option maxRecDepth 20000 in
theorem drawJoin (A : Option Addr) (c : Nat) (l : List Int) (hb_1 : ∀ x ∈ l, 0 ≤ x ∧ x ≤ 255) (w : World) (hC : Kd.C (Kd.int .u8) w A l.length l) :
    Calls Tryd.prog 13 #[.slice A l.length c] w fun e w' => (∃ v L t, e = .returned (.tuple #[v, .string t]) ∧ Kd.R Kd.string 9 w' w.heap.size (fun _ => True) v L ∧ L.length ≤ 5 ∧ (∀ p ∈ L, p.size ≤ 4010)) ∧ Below w.heap.size w w' := by
  obtain ⟨n, a1, s1, h1, hn0, hn1, ha1, hb1⟩ := pick_ok l hb_1 0 0 4 (by omega) (by omega) (by omega) (by omega)
  have hI : IsS48 w ((w.alloc (.cells #[.slice A l.length c, .int .i64 0, .int .u64 0] 48)).alloc (.cells #[] 9)) w.heap.size l 0 0 := IsS48.alloc ⟨A, c, by simp only [World.alloc]; rw [Array.getElem?_push, if_pos rfl], Nat.le_refl _, hC⟩ _
  have hB : Below w.heap.size w ((w.alloc (.cells #[.slice A l.length c, .int .i64 0, .int .u64 0] 48)).alloc (.cells #[] 9)) := below_alloc (below_alloc (Below.refl _ _) _) _
  go_enter Tryd.func13, Tryd.ntmps13
  go_wp2_with (go_at_call 38; refine (S.spec_l1Cur_pick.calls w.heap.size l 0 0 4 n a1 s1 w _ hI hB h1).mono ?_; rintro e w1 ⟨rfl, hI1, hB1, hK1⟩; refine Hid.out ?_)
  refine Lib.hid ?_
  have hb1 : w1.heap[w.heap.size + 1]? = some (.cells #[] 9 (0, 0)) := by
    have hz : ((w.alloc (.cells #[.slice A l.length c, .int .i64 0, .int .u64 0] 48)).alloc (.cells #[] 9)).heap.size = w.heap.size + 2 := by simp only [World.alloc, Array.size_push]
    have := hK1.2 (w.heap.size + 1) (by omega) (by omega) (by simp)
    rw [this]
    simp only [World.alloc]
    rw [Array.getElem?_push, if_pos (by simp only [Array.size_push])]
  have hR1 : Kd.R Kd.string 9 w1 w.heap.size (fun b => b ≠ w.heap.size) (.slice (some ⟨w.heap.size + 1, 0, none⟩) 0 0) [] := Kd.R_of_own (xs := ([] : List ByteArray)) ⟨rfl, Or.inr ⟨w.heap.size + 1, 0, #[], rfl, by omega, hb1, Nat.le_refl _, by decide, rfl, rfl⟩⟩ (fun k hk => by
    have : w.heap.size + 1 = k := by simpa [Value.ownBlock] using hk
    omega)
  clear hI hB hb1 hK1 h1
  go_wp2_with (fail)
  go_loopw [5, 7] (fun v i wr => ∃ (k : Nat) (L : List ByteArray) (a s : Int), (k : Int) ≤ n ∧ i = .int .i64 k ∧ L.length = k ∧ (∀ p ∈ L, p.size ≤ 10) ∧ Kd.R Kd.string 9 wr w.heap.size (fun b => b ≠ w.heap.size) v L ∧ IsS48 w wr w.heap.size l a s ∧ 0 ≤ a ∧ a ≤ 2 + 2 * k ∧ Below w.heap.size w wr) (fun _ i _ => (n - intOf i).toNat)
  case atStart => exact ⟨0, [], a1, s1, by omega, rfl, rfl, (fun p hp => by cases hp), hR1, hI1, by omega, by omega, hB1⟩
  case round =>
    obtain ⟨k, L, a, s, hk, rfl, hL, hLs, hR, hI, ha0, ha, hB⟩ := hrel
    subst hL
    obtain ⟨t2, a2, s2, h2, hz2, ha2, hb2⟩ := any1_ok l hb_1 a s (by omega) (by omega)
    go_wp2_with (go_at_call 35; refine (S.spec_l1Cur_any1.calls w.heap.size l a s t2 a2 s2 w _ hI hB h2).mono ?_; rintro e w2 ⟨rfl, hI2, hB2, hK2⟩; refine Hid.out ?_)
    · refine Lib.hid ?_
      have hlt := IsS48.lt hI2
      have hR2 := Kd.R_keep hR hK2 (fun _ h => h)
      go_wp2_with (first | ((with_reducible refine gate_builtin (b := .append) (xs := #[.tmp 19, .tmp 22]) rfl ?_); at_builtin; refine Kd.R_append Kd.string (w0 := w) w.heap.size rfl (.tmp 19) (.tmp 22) 26 9 (.string ⟨#[]⟩) 16 rfl Tryd.underlying26 info9 rfl (by decide) (by omega) u5 L t2 [.string t2] (fun b => b ≠ w.heap.size) (fun _ => False) rfl rfl rfl (fun _ hk => hk.elim) (fun k hk => by omega) hR2 hB2 hB2.size (by omega) ?_; intro v107 w13 ho hb hg hat; refine Hid.out ?_))
      refine Lib.hid ?_
      have hI13 := IsS48.grown hI2 hg (fun h => hR.1 _ h.symm rfl)
      have hLs2 : ∀ p ∈ L ++ [t2], p.size ≤ 10 := fun p hp => by
        rcases List.mem_append.1 hp with h | h
        · exact hLs p h
        · simp at h; subst h; exact hz2
      go_wp2_with (fail)
      go_roundw
      case rel => exact ⟨L.length + 1, L ++ [t2], a2, s2, by omega, by go_num, by simp, hLs2, ho, hI13, by omega, by omega, hb⟩
      case measure => simp [intOf]; omega
    · obtain ⟨r, a3, s3, h3, ha3, hb3⟩ := one_ok l hb_1 a s 20 (by omega) (by omega) (by omega) (by omega)
      go_wp2_with (go_at_call 39; refine (S.spec_l1Cur_one.calls w.heap.size l a s 20 r a3 s3 w _ hI hB h3).mono ?_; rintro e w2 ⟨rfl, hI2, hB2, hK2⟩; refine Hid.out ?_)
      refine Lib.hid ?_
      have hlt := IsS48.lt hI2
      have hR2 := Kd.R_keep hR hK2 (fun _ h => h)
      clear hR hI hB hK2 hI1 hB1 hR1
      cases r with
      | false =>
        obtain ⟨t5, a5, s5, h5, hm5, ha5, hb5⟩ := of_ok l hb_1 a3 s3 [(⟨#[44]⟩ : ByteArray), ⟨#[59]⟩, ⟨#[59]⟩, ⟨#[]⟩, ⟨#[97, 98]⟩] (by omega) (by omega) (by decide) (by decide)
        have hCl := C_lit w2 [(⟨#[44]⟩ : ByteArray), ⟨#[59]⟩, ⟨#[59]⟩, ⟨#[]⟩, ⟨#[97, 98]⟩] (by decide)
        have hI3 := IsS48.alloc hI2 (.cells ([(⟨#[44]⟩ : ByteArray), ⟨#[59]⟩, ⟨#[59]⟩, ⟨#[]⟩, ⟨#[97, 98]⟩].map Value.string).toArray 9)
        have hB3 := below_alloc hB2 (.cells ([(⟨#[44]⟩ : ByteArray), ⟨#[59]⟩, ⟨#[59]⟩, ⟨#[]⟩, ⟨#[97, 98]⟩].map Value.string).toArray 9)
        have hR3 := Kd.R_alloc hR2 (.cells ([(⟨#[44]⟩ : ByteArray), ⟨#[59]⟩, ⟨#[59]⟩, ⟨#[]⟩, ⟨#[97, 98]⟩].map Value.string).toArray 9)
        obtain ⟨A5, c5, rfl⟩ := Kd.R_slice hR2
        clear hR2 hI2 hB2
        go_wp2_with (go_at_call 36; refine (S.spec_l1Cur_of.calls w.heap.size l a3 s3 (some ⟨w2.heap.size, 0, none⟩) 5 [(⟨#[44]⟩ : ByteArray), ⟨#[59]⟩, ⟨#[59]⟩, ⟨#[]⟩, ⟨#[97, 98]⟩] t5 a5 s5 w _ hI3 hB3 hCl (by decide) (fun ad h _ => by injection h with h; subst h; simp only; omega) h5).mono ?_; rintro e w3 ⟨rfl, hI4, hB4, hK4⟩)
        all_goals (go_ret2; exact ⟨⟨_, L, t5, rfl, Kd.R_mono (Kd.R_keep hR3 hK4 (fun _ h => h)) (fun _ _ => trivial), by omega, fun p hp => by have := hLs p hp; omega⟩, hB4⟩)
      | true =>
        obtain ⟨n2, a4, s4, h4, hn20, hn21, ha4, hb4⟩ := pick_ok l hb_1 a3 s3 20 (by omega) (by omega) (by omega) (by omega)
        go_wp2_with (go_at_call 38; refine (S.spec_l1Cur_pick.calls w.heap.size l a3 s3 20 n2 a4 s4 w _ hI2 hB2 h4).mono ?_; rintro e w3 ⟨rfl, hI3, hB3, hK3⟩; refine Hid.out ?_)
        refine Lib.hid ?_
        obtain ⟨N, hN, hNb⟩ : ∃ N : Nat, 3990 + n2 = (N : Int) ∧ N ≤ 4010 := ⟨(3990 + n2).toNat, by omega, by omega⟩
        have hmk := run_make_row' (P := Tryd.prog) 22 5 (.int .u8 0) 1 Tryd.underlying22 info5 rfl .i64 .i64 N (by omega) (by omega)
        obtain ⟨p, hp, hcv⟩ : ∃ p : ByteArray, p.size = N ∧ (convert 22 9 (.slice (some ⟨w3.heap.size, 0, none⟩) N N)).run Tryd.prog (w3.alloc (.cells (madeCells #[.int .u8 0] N) 5)) = .ok (.string p) (w3.alloc (.cells (madeCells #[.int .u8 0] N) 5)) := by
          refine ⟨strOfNums (List.replicate N 0), by rw [strOfNums_size, List.length_replicate], run_convert_bytes_arg _ 22 5 Tryd.underlying22 Tryd.underlying5 w3.heap.size 0 N N _ (by simp) (fun i hi => ?_) 9 Tryd.underlying9⟩
          have hb : (w3.alloc (.cells (madeCells #[.int .u8 0] N) 5)).heap[w3.heap.size]? = some (.cells (madeCells #[.int .u8 0] N) 5 (0, 0)) := by simp only [World.alloc]; rw [Array.getElem?_push, if_pos rfl]
          unfold World.cell?
          rw [hb]
          simp [madeCells, hi, Nat.mod_one]
        have hI4 := IsS48.alloc hI3 (.cells (madeCells #[.int .u8 0] N) 5)
        have hB4 := below_alloc hB3 (.cells (madeCells #[.int .u8 0] N) 5)
        have hR4 := Kd.R_alloc (Kd.R_keep hR2 hK3 (fun _ h => h)) (.cells (madeCells #[.int .u8 0] N) 5)
        clear h4 hI3 hB3 hK3 hR2 hI2 hB2
        have hlt4 := IsS48.lt hI4
        have hsz : (w3.alloc (.cells (madeCells #[.int .u8 0] N) 5)).heap.size = w3.heap.size + 1 := by simp only [World.alloc, Array.size_push]
        go_wp2_with (first | ((with_reducible refine gate_builtin (b := .append) (xs := #[.tmp 26, .tmp 32]) rfl ?_); at_builtin; refine Kd.R_append Kd.string (w0 := w) w.heap.size rfl (.tmp 26) (.tmp 32) 26 9 (.string ⟨#[]⟩) 16 rfl Tryd.underlying26 info9 rfl (by decide) (by omega) u5 L p [.string p] (fun b => b ≠ w.heap.size) (fun _ => False) rfl (by rw [hsz]; rfl) rfl (fun _ hk => hk.elim) (fun k hk => by omega) hR4 hB4 hB4.size (by omega) ?_; intro v107 w13 ho hb hg hat; refine Hid.out ?_))
        refine Lib.hid ?_
        have hI13 := IsS48.grown hI4 hg (fun h => hR4.1 _ h.symm rfl)
        have hlt13 := IsS48.lt hI13
        have hLs2 : ∀ q ∈ L ++ [p], q.size ≤ 4010 := fun q hq => by
          rcases List.mem_append.1 hq with h | h
          · have := hLs q h; omega
          · simp at h; subst h; omega
        have hlen : (L ++ [p]).length ≤ 5 := by simp; omega
        clear hN hp hcv hI4 hB4 hR4 hlt4 hg hat hmk hLs
        generalize L ++ [p] = L2 at *
        obtain ⟨t5, a5, s5, h5, hm5, ha5, hb5⟩ := of_ok l hb_1 a4 s4 [(⟨#[44]⟩ : ByteArray), ⟨#[59]⟩, ⟨#[59]⟩, ⟨#[]⟩, ⟨#[97, 98]⟩] (by omega) (by omega) (by decide) (by decide)
        have hCl := C_lit w13 [(⟨#[44]⟩ : ByteArray), ⟨#[59]⟩, ⟨#[59]⟩, ⟨#[]⟩, ⟨#[97, 98]⟩] (by decide)
        have hI3 := IsS48.alloc hI13 (.cells ([(⟨#[44]⟩ : ByteArray), ⟨#[59]⟩, ⟨#[59]⟩, ⟨#[]⟩, ⟨#[97, 98]⟩].map Value.string).toArray 9)
        have hB3 := below_alloc hb (.cells ([(⟨#[44]⟩ : ByteArray), ⟨#[59]⟩, ⟨#[59]⟩, ⟨#[]⟩, ⟨#[97, 98]⟩].map Value.string).toArray 9)
        have hR3 := Kd.R_alloc ho (.cells ([(⟨#[44]⟩ : ByteArray), ⟨#[59]⟩, ⟨#[59]⟩, ⟨#[]⟩, ⟨#[97, 98]⟩].map Value.string).toArray 9)
        obtain ⟨A5, c5, rfl⟩ := Kd.R_slice ho
        clear ho hI13 hb
        go_wp2_with (go_at_call 36; refine (S.spec_l1Cur_of.calls w.heap.size l a4 s4 (some ⟨w13.heap.size, 0, none⟩) 5 [(⟨#[44]⟩ : ByteArray), ⟨#[59]⟩, ⟨#[59]⟩, ⟨#[]⟩, ⟨#[97, 98]⟩] t5 a5 s5 w _ hI3 hB3 hCl (by decide) (fun ad h _ => by injection h with h; subst h; simp only; omega) h5).mono ?_; rintro e w3 ⟨rfl, hI4, hB4, hK4⟩)
        all_goals (go_ret2; exact ⟨⟨_, L2, t5, rfl, Kd.R_mono (Kd.R_keep hR3 hK4 (fun _ h => h)) (fun _ _ => trivial), hlen, hLs2⟩, hB4⟩)
end Go.Proofs.YtnbcmjoimenhjaaDoor
