/- The sums behind single laws, third part: forms. No condition. -/
import Derived.Test.YtbheeobnghlckaaAmQ2
import Derived.Test.YtbheeobnghlckaaAmE
set_option linter.unusedVariables false
set_option linter.unusedSimpArgs false
namespace Go.Am
open Go.RowKit
section
variable {P : Program} {C : Ctx P}
theorem eNeg {T : List (Option Value)} {H : Heap} {t : TypeId} {x : Operand} {k : IntKind} {a c : Int} (hx : evalO T x = some (.int k a)) (h : k.wrap (-a) = c) : evOp C T H (.unOp .neg t x) = some (.int k c, H) := by
  subst h
  show ((evalO T x).bind fun v => (opUn .neg v).map fun r => (r, H)) = _
  rw [hx, show -a = 0 - a by omega]; rfl
end
def mnI (a b : Int) : Int := if a < b then a else b
def mnF (s : Int) (f : A3 → Int) (L : List A3) : Nat → Int
  | 0 => s
  | i + 1 => mnI (mnF s f L i) (f (L.getD i default))
theorem mnF_next {s m a : Int} {f : A3 → Int} {L : List A3} {i : Nat} (h : m = mnF s f L i) (ha : a = f (L.getD i default)) : mnI m a = mnF s f L (i + 1) := by subst h ha; rfl
theorem mnF_next2 {s m a : Int} {f : A3 → Int} {L : List A3} {i : Nat} (h : m = mnF s f L i) (ha : a = f (L.getD i default)) : (if a < m then a else m) = mnF s f L (i + 1) := by
  subst h ha
  show _ = mnI _ _
  unfold mnI; repeat' split
  all_goals omega
theorem mnF_first {s : Int} {f : A3 → Int} {L : List A3} (h : f (L.getD 0 default) ≤ s) : ∀ {n : Nat}, 0 < n → mnF (f (L.getD 0 default)) f L n = mnF s f L n
  | 0, hn => absurd hn (by omega)
  | 1, _ => by simp only [mnF, mnI]; repeat' split
               all_goals omega
  | n + 2, _ => by
    have ih := mnF_first (n := n + 1) h (by omega)
    rw [mnF, ih]; rfl
theorem mnF_rng {s : Int} {f : A3 → Int} {L : List A3} {lo : Int} (hs : lo ≤ s) (n : Nat) (h : ∀ j, j < n → lo ≤ f (L.getD j default)) : lo ≤ mnF s f L n ∧ mnF s f L n ≤ s := by
  induction n with
  | zero => exact ⟨hs, Int.le_refl _⟩
  | succ n ih =>
    have := ih fun j hj => h j (by omega)
    have := h n (by omega)
    simp only [mnF, mnI]
    split <;> omega
theorem inR_le {n lo hi : Int} (h : inR n lo hi = true) : lo ≤ n ∧ n ≤ hi := by simpa [inR] using h
def lowB (s0 s1 s2 : Int) (L : List A3) : Bool := (mnF s0 A3.x L L.length == 0) && ((mnF s1 A3.y L L.length == 0) && ((mnF s2 A3.z L L.length == 0) && true))
def pieceB (L : List A3) : Bool := inR (L.length : Int) 1 5 && (okTo 4 4 4 L L.length && lowB 4 4 4 L)
theorem piece_len {L : List A3} (h : inR (L.length : Int) 1 5 = false) : false = pieceB L := by unfold pieceB; rw [h]; rfl
theorem piece_out {L : List A3} {i : Nat} (hi : i < L.length) (h : has3 4 4 4 (L.getD i default).x (L.getD i default).y (L.getD i default).z = false) : false = pieceB L := by
  unfold pieceB; rw [okTo_false hi (by rw [cellOK, h]; rfl)]; simp
theorem piece_lex {L : List A3} {i : Nat} (hi : i < L.length) (h0 : 0 < i) (h : lexB (L.getD (i - 1) default).x (L.getD (i - 1) default).y (L.getD (i - 1) default).z (L.getD i default).x (L.getD i default).y (L.getD i default).z = false) : false = pieceB L := by
  unfold pieceB
  rw [okTo_false hi (by rw [cellOK, lex3, h]; simp; omega)]; simp
theorem inR4 (a : Int) : inR a 0 (4 - 1) = inR a 0 3 := rfl
theorem has4 (a b c : Int) : has3 4 4 4 a b c = (inR a 0 3 && inR b 0 3 && inR c 0 3) := rfl
theorem has4_x {a b c : Int} (h : inR a 0 3 = false) : has3 4 4 4 a b c = false := by rw [has4, h]; rfl
theorem has4_y {a b c : Int} (h : inR b 0 3 = false) : has3 4 4 4 a b c = false := by rw [has4, h]; simp
theorem has4_z {a b c : Int} (h : inR c 0 3 = false) : has3 4 4 4 a b c = false := by rw [has4, h]; simp
theorem has4_t {a b c : Int} (h0 : inR a 0 3 = true) (h1 : inR b 0 3 = true) (h2 : inR c 0 3 = true) : has3 4 4 4 a b c = true := by rw [has4, h0, h1, h2]; rfl
theorem has4_le {a b c : Int} (h : has3 4 4 4 a b c = true) : (0 ≤ a ∧ a ≤ 3) ∧ (0 ≤ b ∧ b ≤ 3) ∧ (0 ≤ c ∧ c ≤ 3) := by
  rw [has4] at h; simp only [inR, Bool.and_eq_true, decide_eq_true_eq] at h; omega
theorem ok4_le {L : List A3} {n : Nat} (h : okTo 4 4 4 L n = true) (j : Nat) (hj : j < n) : (0 ≤ (L.getD j default).x ∧ (L.getD j default).x ≤ 3) ∧ (0 ≤ (L.getD j default).y ∧ (L.getD j default).y ≤ 3) ∧ (0 ≤ (L.getD j default).z ∧ (L.getD j default).z ≤ 3) := by
  unfold okTo at h
  have := List.all_eq_true.1 h j (List.mem_range.2 hj)
  unfold cellOK at this
  exact has4_le (Bool.and_eq_true _ _ ▸ this).1
theorem piece_end {L : List A3} {i : Nat} {m0 m1 m2 : Int} (h : inR (L.length : Int) 1 5 = true) (hi : L.length ≤ i) (hi2 : i ≤ L.length) (ho : okTo 4 4 4 L i = true) (h0 : m0 = mnF 4 A3.x L i) (h1 : m1 = mnF 4 A3.y L i) (h2 : m2 = mnF 4 A3.z L i) :
    ((m0 == 0) && ((m1 == 0) && ((m2 == 0) && true))) = pieceB L := by
  have e : i = L.length := by omega
  subst e
  unfold pieceB lowB
  rw [h, ho, h0, h1, h2]; rfl
theorem piece_end2 {L : List A3} {i : Nat} {m0 m1 m2 : Int} (h : inR (L.length : Int) 1 5 = true) (hi : L.length ≤ i) (hi2 : i ≤ L.length) (ho : okTo 4 4 4 L i = true) (h0 : m0 = mnF (L.getD 0 default).x A3.x L i) (h1 : m1 = mnF (L.getD 0 default).y A3.y L i) (h2 : m2 = mnF (L.getD 0 default).z A3.z L i) :
    ((m0 == 0) && ((m1 == 0) && ((m2 == 0) && true))) = pieceB L := by
  have hp : 0 < i := by simp only [inR, Bool.and_eq_true, decide_eq_true_eq] at h; omega
  have hb := ok4_le ho 0 hp
  exact piece_end h hi hi2 ho (h0.trans (mnF_first (f := A3.x) (by omega) hp)) (h1.trans (mnF_first (f := A3.y) (by omega) hp)) (h2.trans (mnF_first (f := A3.z) (by omega) hp))
/-! ### the parity of a form -/
theorem piece_in {L : List A3} (h : pieceB L = true) : inR (L.length : Int) 1 5 = true := by unfold pieceB at h; exact (Bool.and_eq_true _ _ ▸ h).1
theorem piece_small {L : List A3} (h : pieceB L = true) : SmallL L := by
  unfold pieceB at h
  rw [Bool.and_eq_true, Bool.and_eq_true] at h
  intro c hc
  obtain ⟨j, hj, rfl⟩ := List.getElem_of_mem hc
  have := ok4_le h.2.1 j hj
  rw [List.getD_eq_getElem?_getD, List.getElem?_eq_getElem hj] at this
  simp only [Option.getD_some] at this
  omega
theorem parL_le (L : List A3) : -(3 * (L.length : Int)) ≤ parL L ∧ parL L ≤ 3 * (L.length : Int) := by
  unfold parL
  induction L with
  | nil => simp
  | cons c L ih =>
    have : -3 ≤ parC c ∧ parC c ≤ 3 := by unfold parC; omega
    simp only [List.map_cons, List.sum_cons, List.length_cons]
    omega
def ppI (L : List A3) : Int := if pieceB L = true then mxI (parL L) (-parL L) else 0
theorem ppI_no {L : List A3} (h : pieceB L = false) : 0 = ppI L := by unfold ppI; rw [h]; rfl
theorem ppI_yes {L : List A3} (h : pieceB L = true) : mxI (parL L) (-parL L) = ppI L := by unfold ppI; rw [h]; rfl
theorem ppI_yes2 {L : List A3} (h : pieceB L = true) : (if parL L < -parL L then -parL L else parL L) = ppI L := by
  rw [← ppI_yes h]; unfold mxI; repeat' split
  all_goals omega
end Go.Am
