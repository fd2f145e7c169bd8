/- What impl.ParseInt returns, for every string, and the law's walk: the shelf's contracts on strconv.Atoi and Itoa, under the listed variables. -/
import Derived.Test.YtnbcmjoimenhjaaDoorWa
import Derived.Test.YtnbcmjoimenhjaaDoorNb
import Derived.Test.YtnbcmjoimenhjaaDoorShB
import Derived.Shelf.Strconv.ErrVarAll
namespace Go.Proofs.YtnbcmjoimenhjaaDoor
open Go.RowKit
theorem var_below {P : Program} {w w' : World} {name : String} {cs : Array Value} (h : w.var? P name = some cs) (hb : Below w.heap.size w w') : w'.var? P name = some cs := by
  unfold World.var? at *
  cases hg : P.globalNamed name with
  | none => simp [hg] at h
  | some g =>
    simp only [hg, Option.bind_some] at h ⊢
    have hlt : g < w.heap.size := by
      rcases Nat.lt_or_ge g w.heap.size with h' | h'
      · exact h'
      · rw [Array.getElem?_eq_none h'] at h; simp at h
    rw [hb.block g hlt]
    exact h
theorem no_range (l : List UInt8) (h : l.length ≤ 7) : Lib.atoiAll l ≠ .range := by
  intro hr
  unfold Lib.atoiAll at hr
  split at hr
  · cases hr
  · rename_i c r
    have key : ∀ q : List UInt8, q.length ≤ 7 → Lib.parseMag q = .syntax ∨ ∃ u, u < 10000000 ∧ Lib.parseMag q = .ok u := by
      intro q hq
      unfold Lib.parseMag
      split
      · exact Or.inl rfl
      · cases hp : Lib.parseUint10 0 q with
        | «syntax» => exact Or.inl rfl
        | range => exact absurd hp (parse_range q 0 0 (by decide) (by omega))
        | ok u =>
          have := parse_lt q 0 0 u (by decide) hp
          have h7 : (10 : Nat) ^ (0 + q.length) ≤ 10000000 := Nat.le_trans (Nat.pow_le_pow_right (by decide) (show 0 + q.length ≤ 7 by omega)) (by decide)
          exact Or.inr ⟨u, by omega, rfl⟩
    have hq : (if c.toNat = 43 ∨ c.toNat = 45 then r else c :: r).length ≤ 7 := by
      split
      · simp at h; omega
      · exact h
    rcases key _ hq with e | ⟨u, hu, e⟩
    · simp only [e] at hr
      cases hr
    · simp only [e] at hr
      rw [if_neg (fun hh => by have := hh.2; omega), if_neg (fun hh => by have := hh.2; omega)] at hr
      cases hr
theorem implParse_long (s : ByteArray) (h : ¬ s.size ≤ 7) (w : World) :
    Calls Tryd.prog 23 #[.string s] w fun e w' => e = .returned (.tuple #[.int .i64 0, .bool false]) ∧ Below w.heap.size w w' := by
  go_enter Tryd.func23, Tryd.ntmps23
  go_wp2
  all_goals first | (exfalso; simp at *; omega) | (go_ret2; exact ⟨rfl, Below.refl _ _⟩)
theorem implParse_syntax (s : ByteArray) (h : s.size ≤ 7) (ha : Lib.atoiAll s.data.toList = .syntax) (w : World) (tp : TypeId) (p : Value) (hv : w.var? Tryd.prog "strconv.ErrSyntax" = some #[.iface tp p]) :
    Calls Tryd.prog 23 #[.string s] w fun e w' => e = .returned (.tuple #[.int .i64 0, .bool false]) ∧ Below w.heap.size w w' := by
  go_enter Tryd.func23, Tryd.ntmps23
  go_wp2_with (first
    | (go_at_call 48; refine (Any.strconv_Atoi_syntax_var Tryd.laysC172 s (by omega) ha tp p _ hv).mono ?_; rintro e w1 ⟨N, rfl, -, -, hb⟩)
    | go_in)
  all_goals first | (exfalso; simp at *; omega) | (go_ret2; exact ⟨rfl, hb⟩)
theorem below_atoi {w w' : World} (h : w' = w ∨ ∃ t, w' = Lib.bytesWorld w 5 t) : Below w.heap.size w w' := by
  rcases h with rfl | ⟨t, rfl⟩
  · exact Below.refl _ _
  · exact Lib.bytesWorld_below _ _ _
theorem implParse_out (s : ByteArray) (h : s.size ≤ 7) (v : Int) (ha : Lib.atoiAll s.data.toList = .ok v) (hv : ¬ (-999999 ≤ v ∧ v ≤ 999999)) (w : World) :
    Calls Tryd.prog 23 #[.string s] w fun e w' => e = .returned (.tuple #[.int .i64 0, .bool false]) ∧ Below w.heap.size w w' := by
  go_enter Tryd.func23, Tryd.ntmps23
  go_wp2_with (first
    | (go_at_call 48; refine (Any.strconv_Atoi_ok Tryd.laysC172 s (by omega) v ha _).mono ?_; rintro e w1 ⟨rfl, hw⟩; have hb := below_atoi hw; clear hw)
    | go_in)
  all_goals first | (exfalso; simp at *; omega) | (go_ret2; exact ⟨rfl, hb⟩)
theorem implParse_in (s : ByteArray) (h : s.size ≤ 7) (v : Int) (ha : Lib.atoiAll s.data.toList = .ok v) (h0 : -999999 ≤ v) (h1 : v ≤ 999999) (w : World) (htab : Lib.TabIs Tryd.prog w "internal/strconv.uint64pow10" .u64 Lib.pow10Tab) :
    Calls Tryd.prog 23 #[.string s] w fun e w' => e = .returned (.tuple (if Lib.itoa v = s.data.toList then #[.int .i64 v, .bool true] else #[.int .i64 0, .bool false])) ∧ Below w.heap.size w w' := by
  obtain ⟨it, hit⟩ : ∃ x, x = Lib.itoa v := ⟨_, rfl⟩
  obtain ⟨r, hr⟩ : ∃ x : Array Value, x = (if Lib.itoa v = s.data.toList then #[.int .i64 v, .bool true] else #[.int .i64 0, .bool false]) := ⟨_, rfl⟩
  rw [← hr]
  have hr1 : it = s.data.toList → r = #[.int .i64 v, .bool true] := fun e => by rw [hr, ← hit, if_pos e]
  have hr0 : ¬ it = s.data.toList → r = #[.int .i64 0, .bool false] := fun e => by rw [hr, ← hit, if_neg e]
  clear hr
  go_enter Tryd.func23, Tryd.ntmps23
  go_wp2_with (first
    | (go_at_call 48; refine (Any.strconv_Atoi_ok Tryd.laysC172 s (by omega) v ha _).mono ?_; rintro e w1 ⟨rfl, hw⟩; have hb := below_atoi hw; clear hw)
    | (go_at_call 45; refine (Tryd.strconv_Itoa v (by omega) (by omega) _ (Lib.tabBelow_of_tabIs htab _ hb)).mono ?_; rintro e w' ⟨rfl, k, os, rfl⟩; rw [← hit])
    | go_in)
  · rename_i hx
    have e := hr0 (by rw [hit]; intro e; rw [Lib.toList_data, e] at hx; simp at hx)
    rw [e]
    go_ret2
    exact ⟨rfl, hb.trans ((Lib.below_grow _ _ (Nat.le_refl _) _ _).mono hb.size)⟩
  · rename_i hx
    have e := hr1 (by rw [hit]; rw [Lib.toList_data] at hx; simpa using hx)
    rw [e]
    go_ret2
    exact ⟨rfl, hb.trans ((Lib.below_grow _ _ (Nat.le_refl _) _ _).mono hb.size)⟩
/-- what impl.ParseInt returns, for every string -/
theorem implParse (s : ByteArray) (w : World) (htab : Lib.TabIs Tryd.prog w "internal/strconv.uint64pow10" .u64 Lib.pow10Tab) (tp : TypeId) (p : Value) (hv : w.var? Tryd.prog "strconv.ErrSyntax" = some #[.iface tp p]) :
    Calls Tryd.prog 23 #[.string s] w fun e w' => e = .returned (.tuple #[.int .i64 (parseRes s.data.toList).1, .bool (parseRes s.data.toList).2]) ∧ Below w.heap.size w w' := by
  unfold parseRes
  by_cases h : s.size ≤ 7
  · have hl : s.data.toList.length ≤ 7 := by rw [← size_len]; exact h
    rw [if_pos hl]
    cases ha : Lib.atoiAll s.data.toList with
    | «syntax» => exact implParse_syntax s h ha w tp p hv
    | range => exact absurd ha (no_range _ hl)
    | ok v =>
      simp only
      by_cases hv2 : -999999 ≤ v ∧ v ≤ 999999
      · have := implParse_in s h v ha hv2.1 hv2.2 w htab
        by_cases e : Lib.itoa v = s.data.toList
        · rw [if_pos e] at this
          rw [if_pos ⟨hv2.1, hv2.2, e⟩]
          exact this
        · rw [if_neg e] at this
          rw [if_neg fun h => e h.2.2]
          exact this
      · rw [if_neg fun h => hv2 ⟨h.1, h.2.1⟩]
        exact implParse_out s h v ha hv2 w
  · rw [if_neg (by rw [← size_len]; exact h)]
    exact implParse_long s h w
theorem lawParseInt_short (s : ByteArray) (h : s.size ≤ 1048576) (w : World) (htab : Lib.TabIs Tryd.prog w "internal/strconv.uint64pow10" .u64 Lib.pow10Tab) (tp : TypeId) (p : Value) (hv : w.var? Tryd.prog "strconv.ErrSyntax" = some #[.iface tp p]) :
    Calls Tryd.prog 5 #[.string s] w fun e w' => e = .returned (.bool true) ∧ Below w.heap.size w w' := by
  have hs := specParse s
  generalize hq : parseRes s.data.toList = q at hs
  obtain ⟨q1, q2⟩ := q
  have hi := fun w1 h1 h2 => implParse s w1 h1 tp p h2
  rw [hq] at hi
  clear hq
  go_enter Tryd.func5, Tryd.ntmps5
  go_wp2_with (first
    | (go_at_call 24; refine (S.spec_ParseInt.calls 30 s _ _ _ hs).mono ?_; rintro e w1 ⟨rfl, hb1⟩)
    | (go_at_call 23; refine (hi _ (Lib.tabBelow_of_tabIs htab _ hb1) (var_below hv hb1)).mono ?_; rintro e w2 ⟨rfl, hb2⟩))
  all_goals first | (exfalso; simp at *; omega) | (go_ret; exact ⟨rfl, hb1.trans (hb2.mono hb1.size)⟩)
theorem lawParseInt (s : ByteArray) (w : World) (htab : Lib.TabIs Tryd.prog w "internal/strconv.uint64pow10" .u64 Lib.pow10Tab) (tp : TypeId) (p : Value) (hv : w.var? Tryd.prog "strconv.ErrSyntax" = some #[.iface tp p]) :
    Calls Tryd.prog 5 #[.string s] w fun e w' => e = .returned (.bool true) ∧ Below w.heap.size w w' := by
  by_cases h : s.size ≤ 1048576
  · exact lawParseInt_short s h w htab tp p hv
  · go_enter Tryd.func5, Tryd.ntmps5
    go_wp2_with (fail)
    all_goals first | (exfalso; simp at *; omega) | (go_ret; exact ⟨rfl, Below.refl _ _⟩)
end Go.Proofs.YtnbcmjoimenhjaaDoor
