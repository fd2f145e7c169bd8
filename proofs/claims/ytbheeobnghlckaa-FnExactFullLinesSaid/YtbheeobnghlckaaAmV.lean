/- The frame of all our walks: contracts laid into bigger memories, in general; more single operations. No condition. -/
import Derived.Test.YtbheeobnghlckaaAmH2
import Derived.Test.YtbheeobnghlckaaAmE
set_option linter.unusedVariables false
set_option linter.unusedSimpArgs false
namespace Go.Am
open Go.RowKit

/-! ### a contract that reads some rows and makes new ones -/
def RD (H : Heap) (σ : Nat → Nat) (i : Nat) (o : Option Row) : Prop := ∀ r, o = some r → r.wr = false ∧ ∃ b, H[σ i]? = some (some { renRow σ r with wr := b })
def RDs (H : Heap) (σ : Nat → Nat) : Nat → Heap → Prop
  | _, [] => True
  | i, o :: l => RD H σ i o ∧ RDs H σ (i + 1) l
theorem rdF {H : Heap} {σ : Nat → Nat} {i : Nat} {r : Row} (b : Bool) (hf : FlatRow r) (hw : r.wr = false) (h : H[σ i]? = some (some { r with wr := b })) : RD H σ i (some r) := fun q hq => by
  simp only [Option.some.injEq] at hq
  subst hq
  exact ⟨hw, b, by rw [hf.ren]; exact h⟩
theorem rdX {H : Heap} {σ : Nat → Nat} {i : Nat} {r : Row} (b : Bool) (hw : r.wr = false) (h : H[σ i]? = some (some { renRow σ r with wr := b })) : RD H σ i (some r) := fun q hq => by
  simp only [Option.some.injEq] at hq
  subst hq
  exact ⟨hw, b, h⟩
theorem RDs.at {H : Heap} {σ : Nat → Nat} : ∀ {l : Heap} {i j : Nat} {r : Row}, RDs H σ i l → l[j]? = some (some r) → r.wr = false ∧ ∃ b, H[σ (i + j)]? = some (some { renRow σ r with wr := b })
  | [], i, j, r, _, h => by simp at h
  | o :: l, i, 0, r, h, hj => by simp at hj; exact h.1 r hj
  | o :: l, i, j + 1, r, h, hj => by
    have := RDs.at (i := i + 1) (j := j) h.2 (by simpa using hj)
    rw [show i + 1 + j = i + (j + 1) by omega] at this
    exact this
/-- a fresh row under its new numbers -/
def EN (τ : Nat → Nat) (o o' : Option Row) : Prop := o' = o.map (renRow τ) ∧ ∀ r, o = some r → r.wr = true ∨ r.cells = []
def ENs (τ : Nat → Nat) : Heap → Heap → Prop
  | [], [] => True
  | o :: l, o' :: l' => EN τ o o' ∧ ENs τ l l'
  | _, _ => False
theorem enF {τ : Nat → Nat} {r : Row} (hf : FlatRow r) (hw : r.wr = true ∨ r.cells = []) : EN τ (some r) (some r) :=
  ⟨by simp [hf.ren], fun q hq => by simp only [Option.some.injEq] at hq; subst hq; exact hw⟩
theorem enX {τ : Nat → Nat} {r r' : Row} (h : r' = renRow τ r) (hw : r.wr = true ∨ r.cells = []) : EN τ (some r) (some r') :=
  ⟨by simp [h], fun q hq => by simp only [Option.some.injEq] at hq; subst hq; exact hw⟩
theorem ENs.eq {τ : Nat → Nat} : ∀ {l l' : Heap}, ENs τ l l' → l' = l.map (Option.map (renRow τ))
  | [], [], _ => rfl
  | o :: l, o' :: l', h => by rw [List.map_cons, h.1.1, h.2.eq]
  | [], _ :: _, h => h.elim
  | _ :: _, [], h => h.elim
theorem ENs.wr {τ : Nat → Nat} : ∀ {l l' : Heap}, ENs τ l l' → ∀ r, some r ∈ l → r.wr = true ∨ r.cells = []
  | [], _, _, r, h => by simp at h
  | o :: l, o' :: l', h, r, hr => by
    rcases List.mem_cons.1 hr with h1 | h1
    · exact h.1.2 r h1.symm
    · exact h.2.wr r h1
  | _ :: _, [], h, _, _ => h.elim

theorem Sound.lay {P : Program} {f : FuncId} {args0 args : List Value} {H0 E0 H E : Heap} {v0 v : Value} (σ : List Nat) (hS : Sound P f args0 H0 v0 (H0 ++ E0)) (hr : RDs H (fun i => σ.getD i 0) 0 H0)
    (hlt : (decide (σ.length = H0.length) && σ.all fun s => decide (s < H.length)) = true) (hcl : CLs H0.length H0) (hi : (args0.all fun x => (idsV x).all fun i => decide (i < H0.length)) = true)
    (ha : args = args0.map (mpV (renId fun i => σ.getD i 0))) (hv : v = mpV (renId (shift H0.length H.length fun i => σ.getD i 0)) v0) (hE : ENs (shift H0.length H.length fun i => σ.getD i 0) E0 E) : Sound P f args H v (H ++ E) := by
  simp only [Bool.and_eq_true, decide_eq_true_eq, List.all_eq_true] at hlt hi
  obtain ⟨hl, hlt⟩ := hlt
  refine Sound.emb (fun i => σ.getD i 0) hS ⟨fun i h => ?_, fun i r h => ?_, fun i j r s h _ hw => ?_⟩ (closedL hcl) hE.wr (fun x hx i h => hi x hx i h) ha hv hE.eq
  · refine hlt _ ?_
    simp only [List.getD_eq_getElem?_getD, List.getElem?_eq_getElem (show i < σ.length by omega), Option.getD_some]
    exact List.getElem_mem _
  · have := hr.at h
    rw [Nat.zero_add] at this
    obtain ⟨h1, b, h2⟩ := this
    exact ⟨b, (fun hw => by rw [h1] at hw; cases hw), h2⟩
  · have := (hr.at h).1
    rw [this] at hw
    cases hw
theorem Sound.lay0 {P : Program} {f : FuncId} {args0 args : List Value} {H0 H : Heap} {v0 v : Value} (σ : List Nat) (hS : Sound P f args0 H0 v0 H0) (hr : RDs H (fun i => σ.getD i 0) 0 H0)
    (hlt : (decide (σ.length = H0.length) && σ.all fun s => decide (s < H.length)) = true) (hcl : CLs H0.length H0) (hi : (args0.all fun x => (idsV x).all fun i => decide (i < H0.length)) = true)
    (ha : args = args0.map (mpV (renId fun i => σ.getD i 0))) (hv : v = mpV (renId (shift H0.length H.length fun i => σ.getD i 0)) v0) : Sound P f args H v H := by
  have h := Sound.lay (E0 := []) (E := []) σ (by simpa using hS) hr hlt hcl hi ha hv trivial
  simpa using h

/-- which rows the arguments lead to: by themselves, or through one row (given by w) -/
def leads (args : List Value) (H : Heap) (w : List Nat) (i : Nat) : Bool :=
  (args.any fun x => (idsV x).contains i) || ((args.any fun x => (idsV x).contains (w.getD i 0)) && (match H[w.getD i 0]? with
    | some (some r) => r.cells.any fun v => (idsS v).contains i
    | _ => false))
theorem renRow_mem {σ : Nat → Nat} {r : Row} {v : Value} {i : Nat} (hv : v ∈ r.cells) (hi : i ∈ idsS v) : ∃ u ∈ (renRow σ r).cells, σ i ∈ idsS u :=
  ⟨mpS (renId σ) v, by simp only [renRow]; exact List.mem_map_of_mem hv, by rw [idsS_ren]; exact List.mem_map_of_mem hi⟩
theorem CLs.no : ∀ {l : Heap}, CLs 0 l → ∀ {j : Nat} {r : Row}, l[j]? = some (some r) → ∀ v ∈ r.cells, ∀ k ∈ idsS v, k < 0 := fun h _ _ hj => h.at hj
theorem Quiet.lay0 {P : Program} {f : FuncId} {args0 args : List Value} {H0 H : Heap} {v0 v : Value} (σ : List Nat) (w : List Nat) (hS : Sound P f args0 H0 v0 H0) (hr : RDs H (fun i => σ.getD i 0) 0 H0)
    (hlt : (decide (σ.length = H0.length) && σ.all fun s => decide (s < H.length)) = true) (hcl : CLs H0.length H0) (hi : (args0.all fun x => (idsV x).all fun i => decide (i < H0.length)) = true)
    (ha : args = args0.map (mpV (renId fun i => σ.getD i 0))) (hv : ∀ n, v = mpV (renId (shift H0.length n fun i => σ.getD i 0)) v0) (hk : ((List.range H0.length).all fun i => leads args0 H0 w i) = true) : Quiet P f args H v := fun G E hE hG hids => by
  have hlt2 := hlt
  simp only [Bool.and_eq_true, decide_eq_true_eq, List.all_eq_true] at hlt2
  simp only [List.all_eq_true, List.mem_range] at hk
  have direct : ∀ i, (args0.any fun x => (idsV x).contains i) = true → σ.getD i 0 < G.length := fun i h => arg_lt (σ := fun i => σ.getD i 0) ha h hids
  have hall : ∀ i, i < H0.length → σ.getD i 0 < G.length := by
    intro i hil
    have h := hk i hil
    unfold leads at h
    rw [Bool.or_eq_true, Bool.and_eq_true] at h
    rcases h with h | ⟨h1, h2⟩
    · exact direct i h
    · have hg := direct _ h1
      cases hrow : H0[w.getD i 0]? with
      | none => rw [hrow] at h2; cases h2
      | some o =>
        rw [hrow] at h2
        cases o with
        | none => cases h2
        | some r =>
          simp only [List.any_eq_true] at h2
          obtain ⟨u, hu, hui⟩ := h2
          have hat := hr.at hrow
          rw [Nat.zero_add] at hat
          obtain ⟨_, b, hb⟩ := hat
          rw [hE, List.getElem?_append_left hg] at hb
          obtain ⟨u2, hu2, hm⟩ := renRow_mem (σ := fun i => σ.getD i 0) hu (by simpa using hui)
          exact hG _ _ hb u2 hu2 _ hm
  refine Sound.lay0 σ hS ?_ ?_ hcl hi ha (hv _)
  · have key : ∀ (l : Heap) (i : Nat), i + l.length ≤ H0.length → RDs H (fun i => σ.getD i 0) i l → RDs G (fun i => σ.getD i 0) i l := by
      intro l
      induction l with
      | nil => intro i _ _; trivial
      | cons o l ih =>
        intro i hle h
        simp only [List.length_cons] at hle
        refine ⟨fun r ho => ?_, ih (i + 1) (by omega) h.2⟩
        obtain ⟨h1, b, h2⟩ := h.1 r ho
        have hil : i < H0.length := by omega
        rw [hE, List.getElem?_append_left (hall i hil)] at h2
        exact ⟨h1, b, h2⟩
    exact key H0 0 (by omega) hr
  · simp only [Bool.and_eq_true, decide_eq_true_eq, List.all_eq_true]
    refine ⟨hlt2.1, fun s hs => ?_⟩
    obtain ⟨i, hi, rfl⟩ := List.getElem_of_mem hs
    have := hall i (by omega)
    simpa only [List.getD_eq_getElem?_getD, List.getElem?_eq_getElem hi, Option.getD_some] using this

theorem RDs.agree {H G : Heap} {σ : List Nat} (hag : ∀ i, i ∈ σ → G[i]? = H[i]?) : ∀ {l : Heap} {i : Nat}, i + l.length ≤ σ.length → RDs H (fun i => σ.getD i 0) i l → RDs G (fun i => σ.getD i 0) i l
  | [], _, _, _ => trivial
  | o :: l, i, hle, h => by
    simp only [List.length_cons] at hle
    refine ⟨fun r ho => ?_, RDs.agree hag (by omega) h.2⟩
    obtain ⟨h1, b, h2⟩ := h.1 r ho
    refine ⟨h1, b, ?_⟩
    have hm : σ.getD i 0 ∈ σ := by
      rw [List.getD_eq_getElem?_getD, List.getElem?_eq_getElem (show i < σ.length by omega)]
      exact List.getElem_mem _
    show G[σ.getD i 0]? = _
    rw [hag _ hm]
    exact h2
theorem Any.lay {P : Program} {f : FuncId} {args0 args : List Value} {H0 E0 H E : Heap} {v0 v : Value} {N : Nat} (σ : List Nat) (hS : Sound P f args0 H0 v0 (H0 ++ E0)) (hr : RDs H (fun i => σ.getD i 0) 0 H0)
    (hlt : (decide (σ.length = H0.length) && σ.all fun s => decide (s < N)) = true) (hcl : CLs H0.length H0) (hi : (args0.all fun x => (idsV x).all fun i => decide (i < H0.length)) = true)
    (ha : args = args0.map (mpV (renId fun i => σ.getD i 0))) (hv : v = mpV (renId (shift H0.length N fun i => σ.getD i 0)) v0) (hE : ENs (shift H0.length N fun i => σ.getD i 0) E0 E) : Any N σ H fun G => Sound P f args G v (G ++ E) := fun G hG hag => by
  subst hG
  have hl := hlt
  simp only [Bool.and_eq_true, decide_eq_true_eq] at hl
  exact Sound.lay σ hS (hr.agree hag (by omega)) hlt hcl hi ha hv hE
theorem Any.lay0 {P : Program} {f : FuncId} {args0 args : List Value} {H0 H : Heap} {v0 v : Value} {N : Nat} (σ : List Nat) (hS : Sound P f args0 H0 v0 H0) (hr : RDs H (fun i => σ.getD i 0) 0 H0)
    (hlt : (decide (σ.length = H0.length) && σ.all fun s => decide (s < N)) = true) (hcl : CLs H0.length H0) (hi : (args0.all fun x => (idsV x).all fun i => decide (i < H0.length)) = true)
    (ha : args = args0.map (mpV (renId fun i => σ.getD i 0))) (hv : v = mpV (renId (shift H0.length N fun i => σ.getD i 0)) v0) : Any N σ H fun G => Sound P f args G v G := fun G hG hag => by
  subst hG
  have hl := hlt
  simp only [Bool.and_eq_true, decide_eq_true_eq] at hl
  exact Sound.lay0 σ hS (hr.agree hag (by omega)) hlt hcl hi ha hv
theorem Any.emb_set {P : Program} {f : FuncId} {args0 args : List Value} {r r' : Row} {H : Heap} {v : Value} {N : Nat} (s : Nat) (hS : Sound P f args0 [some r] v [some r']) (hr0 : FlatRow r) (hw : r.wr = true) (hr' : FlatRow r') (hw' : r'.wr = true)
    (hs : H[s]? = some (some r)) (hi : (args0.all fun x => (idsV x).all fun i => decide (i < 1)) = true) (ha : args = args0.map (mpV (renId fun _ => s))) (hv : fixV v = true) : Any N [s] H fun G => Sound P f args G v (G.set s (some r')) := fun G _ hag =>
  Sound.emb_set s hS hr0 hw hr' hw' (by rw [hag s (by simp)]; exact hs) hi ha hv

section
variable {P : Program} {fn : Func} {n : Nat}
theorem endCast {e : Exit} {T : Tm} {H H1 H2 : Heap} {v1 v : Value} (hv : v1 = v) (hH : H1 = H2) (h : Ends P fn n v1 H1 e T H) : Ends P fn n v H2 e T H := by subst hv hH; exact h
end

/-! ### rows of numbers -/
theorem nums_length (L : List Int) : (nums L).length = L.length := by simp [nums]
theorem nums_set (L : List Int) (j : Nat) (n : Int) (h : j < L.length) : splice (nums L) j [.int .i64 n] = nums (L.set j n) := by
  unfold splice nums
  rw [List.map_set, List.set_eq_take_append_cons_drop, if_pos (by simpa using h)]
  simp
theorem reps_nums (n : Nat) : reps n [Value.int .i64 0] = nums (List.replicate n 0) := by
  unfold reps nums
  induction n with
  | zero => rfl
  | succ n ih => simp only [List.replicate_succ, List.flatten_cons, ih, List.map_cons, List.singleton_append]
theorem nums_append (L M : List Int) : nums (L ++ M) = nums L ++ nums M := by simp [nums]
section
variable {P : Program} {C : Ctx P} {T : Tm} {H : Heap} {t u : TypeId} {x y : Operand}
theorem eStNum {H' : Heap} {b o : Nat} {L : List Int} {n : Int} {e : TypeId} {bx : Bool} {ti : TI} (hx : evalO T x = some (.pointer (some ⟨b, o, none⟩))) (hy : evalO T y = some (.int .i64 n)) (hr : row? H b = some ⟨nums L, e, bx, true⟩)
    (hj : o < L.length) (ht : tiOf P t = some ti) (hsz : ti.size = 1) (hH : H.set b (some ⟨nums (L.set o n), e, bx, true⟩) = H') : evOp C T H (.store t x y) = some (undef, H') := by
  simp only [evOp, hx, hy, opStore, hr, ht]
  have hc : (Value.int .i64 n).cells.toList = [.int .i64 n] := rfl
  rw [hc, if_pos ⟨trivial, by simp [hsz], by rw [nums_length, hsz]; omega, rfl⟩]
  rw [← hH, nums_set L o n hj]
  rfl
theorem eMkNum {n : Nat} {e : TypeId} {s1 s2 : Nat} {z : Value} {te : TI} {k k2 : IntKind} (hx : evalO T x = some (.int k (n : Int))) (hy : evalO T y = some (.int k2 (n : Int))) (ht : tiOf P t = some ⟨.slice e, s1, s2, z⟩) (he : tiOf P e = some te) (hz : te.zero.cells.toList = [.int .i64 0]) (hsz : te.size = 1) (hby : te.bytes ≤ 1024)
    (hn : n ≤ 1048576) : evOp C T H (.makeSlice t x y) = some (.slice (some ⟨H.length, 0, none⟩) n 0, H ++ [some ⟨nums (List.replicate n 0), e, false, true⟩]) := by
  simp only [evOp, hx, hy, opMake, ht, he, hz, reps_nums, Int.toNat_natCast]
  have hb : (te.bytes : Int) * (n : Int) ≤ 140737488355328 := by
    have : te.bytes * n ≤ 1024 * 1048576 := Nat.mul_le_mul hby hn
    have h2 : (te.bytes : Int) * (n : Int) = ((te.bytes * n : Nat) : Int) := by push_cast; rfl
    rw [h2]
    omega
  rw [if_pos ⟨trivial, by omega, hb, by omega, by rw [hsz]; rfl, rfl⟩]
theorem eAppNum {H' : Heap} {b a : Nat} {L : List Int} {c : Int} {r : Row} {e : TypeId} {s1 s2 : Nat} {z : Value} {te : TI} {m : Nat} (hx : evalO T x = some (.slice (some ⟨b, 0, none⟩) L.length 0)) (hy : evalO T y = some (.slice (some ⟨a, 0, none⟩) 1 m))
    (ht : tiOf P t = some ⟨.slice e, s1, s2, z⟩) (he : tiOf P e = some te) (hsz : te.size = 1) (hz : te.zero.cells.toList.length = te.size) (hby : te.bytes ≤ 1024)
    (hb : row? H b = some ⟨nums L, e, false, true⟩) (ha : row? H a = some r) (hc : r.cells = [.int .i64 c]) (hL : L.length ≤ 1048576)
    (hH : H.set b none ++ [some ⟨nums (L ++ [c]), e, false, true⟩] = H') :
    evOp C T H (.call ⟨.builtin .append, #[x, y], #[t, t]⟩) = some (.slice (some ⟨H.length, 0, none⟩) (L ++ [c]).length 0, H') := by
  have hrd : readS H te.size (.slice (some ⟨a, 0, none⟩) 1 m) = some [.int .i64 c] := by
    simp only [readS, ha, hsz]
    rw [if_pos (by simp [hc]), hc]
    rfl
  simp only [evOp, hx, hy, if_true, opAppend, ht, he]
  rw [if_pos ⟨by omega, hz⟩]
  simp only [hb, hrd]
  have hbb : (L.length + 1) * te.bytes ≤ 140737488355328 := by
    have : (L.length + 1) * te.bytes ≤ 1048577 * 1024 := Nat.mul_le_mul (by omega) hby
    omega
  rw [if_pos ⟨trivial, trivial, trivial, trivial, by rw [nums_length, hsz]; omega, hbb, by omega⟩]
  rw [← hH, nums_append]
  simp [nums]

/-! ### more of rows of triples -/
theorem a3s_cut : ∀ (M : List A3) (l m : Nat), l + m ≤ M.length → ((a3s M).drop (l * 3)).take (m * 3) = a3s ((M.drop l).take m)
  | [], l, m, h => by simp at h; obtain ⟨rfl, rfl⟩ := h; rfl
  | c :: M, 0, 0, h => by simp [a3s]
  | c :: M, 0, m + 1, h => by
    have ih := a3s_cut M 0 m (by simp at h; omega)
    have e2 : a3s (c :: M) = .int .i64 c.x :: .int .i64 c.y :: .int .i64 c.z :: a3s M := rfl
    simp only [Nat.zero_mul, List.drop_zero] at ih ⊢
    rw [e2, show (m + 1) * 3 = m * 3 + 1 + 1 + 1 by omega, List.take_succ_cons, List.take_succ_cons, List.take_succ_cons, ih, List.take_succ_cons]
    rfl
  | c :: M, l + 1, m, h => by
    have ih := a3s_cut M l m (by simp at h; omega)
    have e2 : a3s (c :: M) = .int .i64 c.x :: .int .i64 c.y :: .int .i64 c.z :: a3s M := rfl
    rw [e2, show (l + 1) * 3 = l * 3 + 1 + 1 + 1 by omega, List.drop_succ_cons, List.drop_succ_cons, List.drop_succ_cons, ih, List.drop_succ_cons]
theorem eAppA3s {H' : Heap} {b a o l m c : Nat} {L M R : List A3} {e : TypeId} {e2 : TypeId} {bx w : Bool} {s1 s2 : Nat} {z : Value} {te : TI} (hx : evalO T x = some (.slice (some ⟨b, 0, none⟩) L.length 0)) (hy : evalO T y = some (.slice (some ⟨a, o, none⟩) m c))
    (ht : tiOf P t = some ⟨.slice e, s1, s2, z⟩) (he : tiOf P e = some te) (hsz : te.size = 3) (hz : te.zero.cells.toList.length = te.size) (hby : te.bytes ≤ 1024)
    (hb : row? H b = some ⟨a3s L, e, false, true⟩) (ha : row? H a = some ⟨a3s M, e2, bx, w⟩) (ho : o = l * 3) (hm : l + m ≤ M.length) (hL : L.length + m ≤ 1048576) (hR : L ++ (M.drop l).take m = R)
    (hH : H.set b none ++ [some ⟨a3s R, e, false, true⟩] = H') :
    evOp C T H (.call ⟨.builtin .append, #[x, y], #[t, t]⟩) = some (.slice (some ⟨H.length, 0, none⟩) R.length 0, H') := by
  have hrd : readS H te.size (.slice (some ⟨a, o, none⟩) m c) = some (a3s ((M.drop l).take m)) := by
    simp only [readS, ha, hsz]
    rw [if_pos (by rw [a3s_length]; omega), ho, a3s_cut M l m hm]
  simp only [evOp, hx, hy, if_true, opAppend, ht, he]
  rw [if_pos ⟨by omega, hz⟩]
  simp only [hb, hrd]
  have hbb : (L.length + m) * te.bytes ≤ 140737488355328 := by
    have : (L.length + m) * te.bytes ≤ 1048576 * 1024 := Nat.mul_le_mul hL hby
    omega
  rw [if_pos ⟨trivial, trivial, trivial, trivial, by rw [a3s_length, hsz], hbb, by omega⟩]
  have hlen : R.length = L.length + m := by rw [← hR]; simp; omega
  rw [← hH, hlen, ← hR, a3s_append]
theorem eAppA3nilY {b : Nat} {L : List A3} {e : TypeId} {s1 s2 : Nat} {z : Value} {te : TI} (hx : evalO T x = some (.slice (some ⟨b, 0, none⟩) L.length 0)) (hy : evalO T y = some (.slice none 0 0))
    (ht : tiOf P t = some ⟨.slice e, s1, s2, z⟩) (he : tiOf P e = some te) (hsz : te.size = 3) (hz : te.zero.cells.toList.length = te.size)
    (hb : row? H b = some ⟨a3s L, e, false, true⟩) :
    evOp C T H (.call ⟨.builtin .append, #[x, y], #[t, t]⟩) = some (.slice (some ⟨b, 0, none⟩) L.length 0, H) := by
  simp only [evOp, hx, hy, if_true, opAppend, ht, he]
  rw [if_pos ⟨by omega, hz⟩]
  simp only [hb]
  rw [if_pos ⟨trivial, trivial, trivial, trivial, by rw [a3s_length, hsz]⟩]
/-- a cut of a slice of triples, not at its end -/
theorem eSlA3 {a : Nat} {L : List A3} {e : TypeId} {w : Bool} {s1 s2 : Nat} {z : Value} {te : TI} {lo hi : Option Operand} {lv hv : Option Value} {l h m o : Nat} (hx : evalO T x = some (.slice (some ⟨a, 0, none⟩) L.length 0)) (hlo : evalM T lo = some lv) (hhi : evalM T hi = some hv)
    (ht : tiOf P t = some ⟨.slice e, s1, s2, z⟩) (he : tiOf P e = some te) (hsz : te.size = 3) (hr : row? H a = some ⟨a3s L, e, false, w⟩)
    (h1 : bnd lv 0 = some l) (h2 : bnd hv L.length = some h) (h3 : l ≤ h) (h4 : h ≤ L.length) (h5 : l < L.length) (hm : h - l = m) (ho : l * 3 = o) : evOp C T H (.slice t x lo hi none) = some (.slice (some ⟨a, o, none⟩) m (0 + l), H) := by
  simp only [evOp, hx, hlo, hhi, opSlice, ht, he, hr, h1, h2]
  rw [if_pos ⟨trivial, trivial, by omega, by rw [a3s_length, hsz]; omega, by omega, h3, h4⟩, if_pos h5, hm, hsz, Nat.zero_add, ho]
/-- a cut at the end -/
theorem eSlA3e {a : Nat} {L : List A3} {e : TypeId} {w : Bool} {s1 s2 : Nat} {z : Value} {te : TI} {lo hi : Option Operand} {lv hv : Option Value} {l h : Nat} (hx : evalO T x = some (.slice (some ⟨a, 0, none⟩) L.length 0)) (hlo : evalM T lo = some lv) (hhi : evalM T hi = some hv)
    (ht : tiOf P t = some ⟨.slice e, s1, s2, z⟩) (he : tiOf P e = some te) (hsz : te.size = 3) (hr : row? H a = some ⟨a3s L, e, false, w⟩)
    (h1 : bnd lv 0 = some l) (h2 : bnd hv L.length = some h) (h3 : l ≤ h) (h4 : h ≤ L.length) (h5 : L.length ≤ l) : evOp C T H (.slice t x lo hi none) = some (.slice (some ⟨H.length, 0, none⟩) 0 0, H ++ [some ⟨[], e, false, false⟩]) := by
  simp only [evOp, hx, hlo, hhi, opSlice, ht, he, hr, h1, h2]
  rw [if_pos ⟨trivial, trivial, by omega, by rw [a3s_length, hsz]; omega, by omega, h3, h4⟩, if_neg (by omega)]
end
end Go.Am
