/- The draws of the law FnStrings: what they return is bounded. No condition. -/
import Derived.Test.YtnbcmjoimenhjaaDoorWg
import Derived.Test.YtnbcmjoimenhjaaDoorNa
namespace Go.Proofs.YtnbcmjoimenhjaaDoor
open Go.RowKit S Go.Proofs.YtnbcmjoimenhjaaDoorW.PrintWords Go.Proofs.YtnbcmjoimenhjaaDoorW.PrintLast Go.Proofs.YtnbcmjoimenhjaaDoorW.PrintMore
theorem CI_lit (w : World) (L : List Int) (hL : L.length ≤ 1000) : Kd.C (Kd.int .i64) (w.alloc (.cells (L.map (Value.int .i64)).toArray 3)) (some ⟨w.heap.size, 0, none⟩) L.length L := by
  refine ⟨rfl, by omega, fun _ => ⟨_, rfl, fun j p hp => ⟨[.int .i64 p], rfl, rfl, fun i u hu => ?_⟩⟩⟩
  cases i with
  | zero =>
    simp only [List.getElem?_cons_zero, Option.some.injEq] at hu
    subst hu
    have e : j * (Kd.int .i64).sz + 0 = j := by show j * 1 + 0 = j; omega
    rw [e]
    have ea : (⟨w.heap.size, 0, none⟩ : Addr).add j = ⟨w.heap.size, j, none⟩ := by cases j <;> simp [Addr.add]
    rw [ea]
    have hb : (w.alloc (.cells (L.map (Value.int .i64)).toArray 3)).heap[w.heap.size]? = some (.cells (L.map (Value.int .i64)).toArray 3 (0, 0)) := by simp only [World.alloc]; rw [Array.getElem?_push, if_pos rfl]
    unfold World.cell?
    rw [hb]
    simp [hp]
  | succ i => simp at hu
theorem among_ok (l : List Int) (hb : ∀ x ∈ l, 0 ≤ x ∧ x ≤ 255) (a s : Int) (L : List Int) (h0 : 0 ≤ a) (h1 : a ≤ 900000) (hL : 0 < L.length) (hL2 : L.length ≤ 1000) : ∃ t a' s', spec_l1Cur_among.f l a s L = some (t, a', s') := by
  obtain ⟨r, a', s', e, hr0, hr1, ha, ha2⟩ := pick_ok l hb a s (L.length : Int) h0 h1 (by omega) (by omega)
  unfold spec_l1Cur_among.f
  rw [e]
  simp only [Option.bind_some]
  rw [if_pos hr0, if_pos hr1]
  exact ⟨_, _, _, rfl⟩
theorem drawFormat (A : Option Addr) (c : Nat) (l : List Int) (hb : ∀ x ∈ l, 0 ≤ x ∧ x ≤ 255) (w : World) (hC : Kd.C (Kd.int .u8) w A l.length l) :
    Calls Tryd.prog 19 #[.slice A l.length c] w fun e w' => (∃ n, e = .returned (.int .i64 n)) ∧ Below w.heap.size w w' := by
  obtain ⟨n, a1, s1, h1, hn0, hn1, ha1, hb1⟩ := pick_ok l hb 0 0 1000 (by omega) (by omega) (by omega) (by omega)
  have hI : IsS48 w (w.alloc (.cells #[.slice A l.length c, .int .i64 0, .int .u64 0] 48)) w.heap.size l 0 0 := ⟨A, c, by simp only [World.alloc]; rw [Array.getElem?_push, if_pos rfl], Nat.le_refl _, hC⟩
  have hB : Below w.heap.size w (w.alloc (.cells #[.slice A l.length c, .int .i64 0, .int .u64 0] 48)) := below_alloc (Below.refl _ _) _
  go_enter Tryd.func19, Tryd.ntmps19
  go_wp2_with (go_at_call 38; refine (S.spec_l1Cur_pick.calls w.heap.size l 0 0 1000 n a1 s1 w _ hI hB h1).mono ?_; rintro e w1 ⟨rfl, hI1, hB1, hK1⟩; refine Hid.out ?_)
  refine Lib.hid ?_
  obtain ⟨t2, a2, s2, h2⟩ := among_ok l hb a1 s1 [0, 1, -1, 10, 999999, -999999, 1000000, -1000000, n - 500] (by omega) (by omega) (by simp) (by simp)
  have hlt := IsS48.lt hI1
  have hCl := CI_lit w1 [0, 1, -1, 10, 999999, -999999, 1000000, -1000000, n - 500] (by simp)
  have hI2 := IsS48.alloc hI1 (.cells ([0, 1, -1, 10, 999999, -999999, 1000000, -1000000, n - 500].map (Value.int .i64)).toArray 3)
  have hB2 := below_alloc hB1 (.cells ([0, 1, -1, 10, 999999, -999999, 1000000, -1000000, n - 500].map (Value.int .i64)).toArray 3)
  clear hI hB h1 hI1 hB1 hK1
  go_wp2_with (go_at_call 43; refine (S.spec_l1Cur_among.calls w.heap.size l a1 s1 (some ⟨w1.heap.size, 0, none⟩) 9 [0, 1, -1, 10, 999999, -999999, 1000000, -1000000, n - 500] t2 a2 s2 w _ hI2 hB2 hCl (by simp) (fun ad h _ => by injection h with h; subst h; simp only; omega) h2).mono ?_; rintro e w2 ⟨rfl, hI3, hB3, hK3⟩)
  all_goals (go_ret; exact ⟨⟨_, rfl⟩, hB3⟩)
theorem drawParse (A : Option Addr) (c : Nat) (l : List Int) (hb : ∀ x ∈ l, 0 ≤ x ∧ x ≤ 255) (w : World) (hC : Kd.C (Kd.int .u8) w A l.length l) :
    Calls Tryd.prog 22 #[.slice A l.length c] w fun e w' => (∃ s, e = .returned (.string s)) ∧ Below w.heap.size w w' := by
  obtain ⟨r, a1, s1, h1, ha1, hb1⟩ := one_ok l hb 0 0 2 (by omega) (by omega) (by omega) (by omega)
  have hI : IsS48 w (w.alloc (.cells #[.slice A l.length c, .int .i64 0, .int .u64 0] 48)) w.heap.size l 0 0 := ⟨A, c, by simp only [World.alloc]; rw [Array.getElem?_push, if_pos rfl], Nat.le_refl _, hC⟩
  have hB : Below w.heap.size w (w.alloc (.cells #[.slice A l.length c, .int .i64 0, .int .u64 0] 48)) := below_alloc (Below.refl _ _) _
  go_enter Tryd.func22, Tryd.ntmps22
  go_wp2_with (go_at_call 39; refine (S.spec_l1Cur_one.calls w.heap.size l 0 0 2 r a1 s1 w _ hI hB h1).mono ?_; rintro e w1 ⟨rfl, hI1, hB1, hK1⟩; refine Hid.out ?_)
  refine Lib.hid ?_
  clear hI hB h1 hK1
  have hlt := IsS48.lt hI1
  cases r with
  | true =>
    obtain ⟨t2, a2, s2, h2, hm2, ha2, hb2⟩ := of_ok l hb a1 s1 [(⟨#[]⟩ : ByteArray), ⟨#[45]⟩, ⟨#[45, 48]⟩, ⟨#[48, 48]⟩, ⟨#[48, 49]⟩, ⟨#[45, 45, 49]⟩, ⟨#[49, 120]⟩, ⟨#[57, 57, 57, 57, 57, 57]⟩, ⟨#[49, 48, 48, 48, 48, 48, 48]⟩, ⟨#[45, 57, 57, 57, 57, 57, 57]⟩, ⟨#[49, 56, 52, 52, 54, 55, 52, 52, 48, 55, 51, 55, 48, 57, 53, 53, 49, 54, 49, 55]⟩] (by omega) (by omega) (by decide) (by decide)
    have hCl := C_lit w1 [(⟨#[]⟩ : ByteArray), ⟨#[45]⟩, ⟨#[45, 48]⟩, ⟨#[48, 48]⟩, ⟨#[48, 49]⟩, ⟨#[45, 45, 49]⟩, ⟨#[49, 120]⟩, ⟨#[57, 57, 57, 57, 57, 57]⟩, ⟨#[49, 48, 48, 48, 48, 48, 48]⟩, ⟨#[45, 57, 57, 57, 57, 57, 57]⟩, ⟨#[49, 56, 52, 52, 54, 55, 52, 52, 48, 55, 51, 55, 48, 57, 53, 53, 49, 54, 49, 55]⟩] (by decide)
    have hI2 := IsS48.alloc hI1 (.cells ([(⟨#[]⟩ : ByteArray), ⟨#[45]⟩, ⟨#[45, 48]⟩, ⟨#[48, 48]⟩, ⟨#[48, 49]⟩, ⟨#[45, 45, 49]⟩, ⟨#[49, 120]⟩, ⟨#[57, 57, 57, 57, 57, 57]⟩, ⟨#[49, 48, 48, 48, 48, 48, 48]⟩, ⟨#[45, 57, 57, 57, 57, 57, 57]⟩, ⟨#[49, 56, 52, 52, 54, 55, 52, 52, 48, 55, 51, 55, 48, 57, 53, 53, 49, 54, 49, 55]⟩].map Value.string).toArray 9)
    have hB2 := below_alloc hB1 (.cells ([(⟨#[]⟩ : ByteArray), ⟨#[45]⟩, ⟨#[45, 48]⟩, ⟨#[48, 48]⟩, ⟨#[48, 49]⟩, ⟨#[45, 45, 49]⟩, ⟨#[49, 120]⟩, ⟨#[57, 57, 57, 57, 57, 57]⟩, ⟨#[49, 48, 48, 48, 48, 48, 48]⟩, ⟨#[45, 57, 57, 57, 57, 57, 57]⟩, ⟨#[49, 56, 52, 52, 54, 55, 52, 52, 48, 55, 51, 55, 48, 57, 53, 53, 49, 54, 49, 55]⟩].map Value.string).toArray 9)
    clear hI1 hB1 hm2
    go_wp2_with (go_at_call 36; refine (S.spec_l1Cur_of.calls w.heap.size l a1 s1 (some ⟨w1.heap.size, 0, none⟩) 11 [(⟨#[]⟩ : ByteArray), ⟨#[45]⟩, ⟨#[45, 48]⟩, ⟨#[48, 48]⟩, ⟨#[48, 49]⟩, ⟨#[45, 45, 49]⟩, ⟨#[49, 120]⟩, ⟨#[57, 57, 57, 57, 57, 57]⟩, ⟨#[49, 48, 48, 48, 48, 48, 48]⟩, ⟨#[45, 57, 57, 57, 57, 57, 57]⟩, ⟨#[49, 56, 52, 52, 54, 55, 52, 52, 48, 55, 51, 55, 48, 57, 53, 53, 49, 54, 49, 55]⟩] t2 a2 s2 w _ hI2 hB2 hCl (by decide) (fun ad h _ => by injection h with h; subst h; simp only; omega) h2).mono ?_; rintro e w2 ⟨rfl, hI3, hB3, hK3⟩)
    all_goals (go_ret; exact ⟨⟨_, rfl⟩, hB3⟩)
  | false =>
    obtain ⟨n, a2, s2, h2, hn0, hn1, ha2, hb2⟩ := pick_ok l hb a1 s1 2000 (by omega) (by omega) (by omega) (by omega)
    have hnum := num_int (n - 1000) (by omega) (by omega)
    go_wp2_with (go_at_call 38; refine (S.spec_l1Cur_pick.calls w.heap.size l a1 s1 2000 n a2 s2 w _ hI1 hB1 h2).mono ?_; rintro e w2 ⟨rfl, hI2, hB2, hK2⟩; refine Hid.out ?_)
    refine Lib.hid ?_
    clear hI1 hB1 h2 hK2
    go_wp2_with (go_at_call 47; refine (S.spec_l1Num.calls 9 (n - 1000) _ _ hnum).mono ?_; rintro e w3 ⟨rfl, hd3⟩)
    all_goals (go_ret; exact ⟨⟨_, rfl⟩, hB2.trans (hd3.mono hB2.size)⟩)
set_option maxRecDepth 20000 in
theorem drawAppend (A : Option Addr) (c : Nat) (l : List Int) (hb_1 : ∀ x ∈ l, 0 ≤ x ∧ x ≤ 255) (w : World) (hC : Kd.C (Kd.int .u8) w A l.length l) :
    Calls Tryd.prog 25 #[.slice A l.length c] w fun e w' => (∃ s, e = .returned (.string s) ∧ s.size ≤ 4000) ∧ Below w.heap.size w w' := by
  obtain ⟨r, a1, s1, h1, ha1, hb1⟩ := one_ok l hb_1 0 0 20 (by omega) (by omega) (by omega) (by omega)
  have hI : IsS48 w (w.alloc (.cells #[.slice A l.length c, .int .i64 0, .int .u64 0] 48)) w.heap.size l 0 0 := ⟨A, c, by simp only [World.alloc]; rw [Array.getElem?_push, if_pos rfl], Nat.le_refl _, hC⟩
  have hB : Below w.heap.size w (w.alloc (.cells #[.slice A l.length c, .int .i64 0, .int .u64 0] 48)) := below_alloc (Below.refl _ _) _
  go_enter Tryd.func25, Tryd.ntmps25
  go_wp2_with (go_at_call 39; refine (S.spec_l1Cur_one.calls w.heap.size l 0 0 20 r a1 s1 w _ hI hB h1).mono ?_; rintro e w1 ⟨rfl, hI1, hB1, hK1⟩; refine Hid.out ?_)
  refine Lib.hid ?_
  clear hI hB h1 hK1
  have hlt := IsS48.lt hI1
  cases r with
  | false =>
    obtain ⟨t2, a2, s2, h2, hz2, ha2, hb2⟩ := any1_ok l hb_1 a1 s1 (by omega) (by omega)
    go_wp2_with (go_at_call 35; refine (S.spec_l1Cur_any1.calls w.heap.size l a1 s1 t2 a2 s2 w _ hI1 hB1 h2).mono ?_; rintro e w2 ⟨rfl, hI3, hB3, hK3⟩)
    all_goals (go_ret; exact ⟨⟨_, rfl, by omega⟩, hB3⟩)
  | true =>
    obtain ⟨n2, a4, s4, h4, hn20, hn21, ha4, hb4⟩ := pick_ok l hb_1 a1 s1 10 (by omega) (by omega) (by omega) (by omega)
    go_wp2_with (go_at_call 38; refine (S.spec_l1Cur_pick.calls w.heap.size l a1 s1 10 n2 a4 s4 w _ hI1 hB1 h4).mono ?_; rintro e w3 ⟨rfl, hI3, hB3, hK3⟩; refine Hid.out ?_)
    refine Lib.hid ?_
    obtain ⟨N, hN, hNb⟩ : ∃ N : Nat, 3990 + n2 = (N : Int) ∧ N ≤ 4000 := ⟨(3990 + n2).toNat, by omega, by omega⟩
    have hmk := run_make_row' (P := Tryd.prog) 22 5 (.int .u8 0) 1 Tryd.underlying22 info5 rfl .i64 .i64 N (by omega) (by omega)
    obtain ⟨p, hp, hcv⟩ : ∃ p : ByteArray, p.size = N ∧ (convert 22 9 (.slice (some ⟨w3.heap.size, 0, none⟩) N N)).run Tryd.prog (w3.alloc (.cells (madeCells #[.int .u8 0] N) 5)) = .ok (.string p) (w3.alloc (.cells (madeCells #[.int .u8 0] N) 5)) := by
      refine ⟨strOfNums (List.replicate N 0), by rw [strOfNums_size, List.length_replicate], run_convert_bytes_arg _ 22 5 Tryd.underlying22 Tryd.underlying5 w3.heap.size 0 N N _ (by simp) (fun i hi => ?_) 9 Tryd.underlying9⟩
      have hb : (w3.alloc (.cells (madeCells #[.int .u8 0] N) 5)).heap[w3.heap.size]? = some (.cells (madeCells #[.int .u8 0] N) 5 (0, 0)) := by simp only [World.alloc]; rw [Array.getElem?_push, if_pos rfl]
      unfold World.cell?
      rw [hb]
      simp [madeCells, hi, Nat.mod_one]
    have hB4 := below_alloc hB3 (.cells (madeCells #[.int .u8 0] N) 5)
    clear h4 hI3 hB3 hK3 hI1 hB1
    go_wp2_with (fail)
    all_goals (go_ret; exact ⟨⟨_, rfl, by omega⟩, hB4⟩)
end Go.Proofs.YtnbcmjoimenhjaaDoor
