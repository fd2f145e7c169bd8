/- Part of the proof, merged out of smaller texts. No condition. -/
import Derived.Test.YteohlhpdbnhbaaaProg
import Derived.MapKept
import Derived.Test.YteohlhpdbnhbaaaAmC2
import Derived.Test.YteohlhpdbnhbaaaAmC3
import Derived.WalkKit
import Derived.BigCall
import Derived.LoopTactic
import Derived.Lib.Hide
import Derived.Deep.QuietTactic
import Derived.Deep.RegionWith
namespace Go.Proofs.Yteohlhpdbnhbaaa
open Go.RowKit
def MapAt (w : World) (b : Nat) (M : List Go.Am.A3) : Prop := ∃ es clock, w.heap[b]? = some (.map es clock) ∧ es.toList.map MapEntry.key = M.map Go.Am.A3.v ∧ ∀ e ∈ es.toList, e.val = .bool true
abbrev tri (a b c : Int) : Value := .agg #[.int .i64 a, .int .i64 b, .int .i64 c]
theorem flat46 : Go.Am.FlatTy Try.prog 2 46 (3 * 1) := .array Try.underlying46 (.int Try.underlying3) (by kernel_rfl)
theorem eqTri (w : World) (p q : Go.Am.A3) : (Op.equal 46 p.v q.v).run Try.prog w = .ok (decide (p = q)) w := by
  have h := Go.Am.flat_eq (P := Try.prog) 2 46 3 flat46 p.cs q.cs p.v q.v ((p.x == q.x) && ((p.y == q.y) && ((p.z == q.z) && true))) rfl (by simp [Go.Am.A3.cs, Go.Am.eqCells]) (Or.inr ⟨Or.inl ⟨_, _, Try.underlying46⟩, rfl⟩) (Or.inr ⟨Or.inl ⟨_, _, Try.underlying46⟩, rfl⟩) Op.maxDepth (by decide) w
  have e : ((p.x == q.x) && ((p.y == q.y) && ((p.z == q.z) && true))) = decide (p = q) := by
    obtain ⟨a, b, c⟩ := p
    obtain ⟨a', b', c'⟩ := q
    rw [Bool.eq_iff_iff]
    simp
  rw [e] at h
  exact h
theorem findAsk (w : World) (p : Go.Am.A3) : ∀ (es : List MapEntry) (M : List Go.Am.A3) (i : Nat), es.map MapEntry.key = M.map Go.Am.A3.v → (∀ e ∈ es, e.val = .bool true) →
    (p ∉ M ∧ (Instr.findAsking 46 p.v es i).run Try.prog w = .ok none w) ∨ (p ∈ M ∧ ∃ j, (Instr.findAsking 46 p.v es i).run Try.prog w = .ok (some (j, .bool true)) w)
  | [], M, i, hk, hv => by
    have : M = [] := by cases M with | nil => rfl | cons => simp at hk
    subst this
    exact Or.inl ⟨by simp, rfl⟩
  | e :: es, [], i, hk, hv => by simp at hk
  | e :: es, q :: M, i, hk, hv => by
    simp only [List.map_cons, List.cons.injEq] at hk
    have he : (Op.equal 46 p.v e.key).run Try.prog w = .ok (decide (p = q)) w := by rw [hk.1]; exact eqTri w p q
    by_cases hpq : p = q
    · right
      refine ⟨by simp [hpq], i, ?_⟩
      rw [decide_eq_true hpq] at he
      unfold Instr.findAsking
      simp only [Sem.run_bind, he, Result.andThen_ok, if_true, Sem.run_pure]
      rw [hv e (by simp)]
    · rcases findAsk w p es M (i + 1) hk.2 (fun x hx => hv x (List.mem_cons_of_mem _ hx)) with ⟨h1, h2⟩ | ⟨h1, j, h2⟩
      · left
        refine ⟨by simp [hpq, h1], ?_⟩
        rw [decide_eq_false hpq] at he
        unfold Instr.findAsking
        simp only [Sem.run_bind, he, Result.andThen_ok]
        exact h2
      · right
        refine ⟨by simp [h1], j, ?_⟩
        rw [decide_eq_false hpq] at he
        unfold Instr.findAsking
        simp only [Sem.run_bind, he, Result.andThen_ok]
        exact h2
theorem findTri (w : World) (p : Go.Am.A3) (es : List MapEntry) (M : List Go.Am.A3) (hk : es.map MapEntry.key = M.map Go.Am.A3.v) (hv : ∀ e ∈ es, e.val = .bool true) :
    (p ∉ M ∧ (Instr.findKey 46 p.v es).run Try.prog w = .ok none w) ∨ (p ∈ M ∧ ∃ j, (Instr.findKey 46 p.v es).run Try.prog w = .ok (some (j, .bool true)) w) := by
  have hu : (underlying 46).run Try.prog w = .ok (.array 3 3) w := Go.run_underlying Try.underlying46 w
  cases es with
  | nil =>
    have : M = [] := by cases M with | nil => rfl | cons => simp at hk
    subst this
    left
    refine ⟨by simp, ?_⟩
    unfold Instr.findKey
    simp [hu, Instr.findNow]
  | cons e es =>
    have hn : Instr.findNow (.array 3 3) p.v (e :: es) 0 = none := rfl
    have h := findAsk w p (e :: es) M 0 hk hv
    unfold Instr.findKey
    simp only [Sem.run_bind, hu, Result.andThen_ok, hn]
    exact h
theorem checkInt (em : Bool) (n : Nat) (x : Value) (w : World) : (Instr.checkKey em (n + 1) 3 x).run Try.prog w = .ok () w := by
  have hu : (underlying 3).run Try.prog w = .ok (.int .i64) w := Go.run_underlying Try.underlying3 w
  unfold Instr.checkKey
  simp [hu]
theorem checkTri (w : World) (em : Bool) (a b c : Int) : (Instr.checkKey em 10000 46 (tri a b c)).run Try.prog w = .ok () w := by
  have hu : (underlying 46).run Try.prog w = .ok (.array 3 3) w := Go.run_underlying Try.underlying46 w
  show (Instr.checkKey em (9998 + 1 + 1) 46 (tri a b c)).run Try.prog w = .ok () w
  unfold Instr.checkKey
  have hc : ∀ x w, (Instr.checkKey em 9999 3 x).run Try.prog w = .ok () w := fun x w => checkInt em 9998 x w
  have hr : List.range' 0 3 = [0, 1, 2] := rfl
  simp [hu, part, hr, Try.sizeOf3, Try.isAgg3, hc]
theorem look (w : World) (b : Nat) (M : List Go.Am.A3) (h : MapAt w b M) (x y z : Int) : (Instr.lookup 54 (.map (some b)) (tri x y z) false).run Try.prog w = .ok (.bool (decide ((⟨x, y, z⟩ : Go.Am.A3) ∈ M))) w := by
  obtain ⟨es, clock, hb, hk, hv⟩ := h
  have hu : (underlying 54).run Try.prog w = .ok (.map 46 4) w := Go.run_underlying Try.underlying54 w
  have hz : (zeroValue 4).run Try.prog w = .ok (.bool false) w := Try.zeroValue4 w
  unfold Instr.lookup
  rcases findTri w ⟨x, y, z⟩ es.toList M hk hv with ⟨h1, h2⟩ | ⟨h1, j, h2⟩
  · have h2' : (Instr.findKey 46 (tri x y z) es.toList).run Try.prog w = .ok none w := h2
    simp [hu, MapKept.run_getObj_map hb, checkTri, h2', hz, h1]
  · have h2' : (Instr.findKey 46 (tri x y z) es.toList).run Try.prog w = .ok (some (j, .bool true)) w := h2
    simp [hu, MapKept.run_getObj_map hb, checkTri, h2', h1]
theorem makeMap (w : World) : (Instr.makeMap 54 none).run Try.prog w = .ok (.map (some w.heap.size)) (w.alloc (.map #[] 0)) := rfl
def mapSet (w : World) (b : Nat) (o : Obj) : World := { w with heap := w.heap.setIfInBounds b o }
theorem mapSet_at {w : World} {b : Nat} {o : Obj} (hb : b < w.heap.size) : (mapSet w b o).heap[b]? = some o := by
  unfold mapSet
  simp [hb]
theorem mapSet_far {w : World} {b k : Nat} {o : Obj} (h : k ≠ b) : (mapSet w b o).heap[k]? = w.heap[k]? := by
  unfold mapSet
  simp only
  rw [Array.getElem?_setIfInBounds, if_neg (fun e => h e.symm)]
theorem mapSet_below {B : Nat} {w0 w : World} {b : Nat} {o : Obj} (h : Below B w0 w) (hb : B ≤ b) : Below B w0 (mapSet w b o) :=
  ⟨h.os, h.tape, h.output, by unfold mapSet; simpa using h.size, fun k hk => (mapSet_far (by omega)).trans (h.block k hk)⟩
theorem update (w : World) (b : Nat) (M : List Go.Am.A3) (h : MapAt w b M) (x y z : Int) (hn : (⟨x, y, z⟩ : Go.Am.A3) ∉ M) : ∃ o, (Instr.mapUpdate 54 (.map (some b)) (tri x y z) (.bool true)).run Try.prog w = .ok () (mapSet w b o) ∧ MapAt (mapSet w b o) b (M ++ [⟨x, y, z⟩]) := by
  obtain ⟨es, clock, hb, hk, hv⟩ := h
  have hu : (underlying 54).run Try.prog w = .ok (.map 46 4) w := Go.run_underlying Try.underlying54 w
  have hlt : b < w.heap.size := (Array.getElem?_eq_some_iff.1 hb).1
  refine ⟨.map (es.push ⟨tri x y z, .bool true, clock⟩) (clock + 1), ?_, es.push ⟨tri x y z, .bool true, clock⟩, clock + 1, mapSet_at hlt, ?_, ?_⟩
  · rcases findTri w ⟨x, y, z⟩ es.toList M hk hv with ⟨h1, h2⟩ | ⟨h1, j, h2⟩
    · have h2' : (Instr.findKey 46 (tri x y z) es.toList).run Try.prog w = .ok none w := h2
      unfold Instr.mapUpdate mapSet
      simp [hu, MapKept.run_getObj_map hb, checkTri, h2', MapKept.run_setObj_map _ hb]
    · exact absurd h1 hn
  · rw [Array.toList_push, List.map_append, List.map_append, hk]; rfl
  · intro e he
    rw [Array.toList_push, List.mem_append] at he
    rcases he with he | he
    · exact hv e he
    · rw [List.mem_singleton.1 he]
end Go.Proofs.Yteohlhpdbnhbaaa
namespace Go.Proofs.Yteohlhpdbnhbaaa
open Go.RowKit
def Arr (w : World) (b : Nat) (c : Nat → Nat) : Prop := w.heap[b]? = some (.cells #[.int .i64 (c 0 : Int), .int .i64 (c 1 : Int), .int .i64 (c 2 : Int), .int .i64 (c 3 : Int)] 26 (0, 0))
theorem Arr.at {w : World} {b : Nat} {c : Nat → Nat} (h : Arr w b c) (d : Nat) (hd : d < 4) : w.cell? ⟨b, d, none⟩ = some (.int .i64 (c d : Int)) ∧ w.frozen? ⟨b, d, none⟩ = false := by
  unfold Arr at h
  rcases (show d = 0 ∨ d = 1 ∨ d = 2 ∨ d = 3 by omega) with rfl | rfl | rfl | rfl <;> simp [World.cell?, World.frozen?, h]
theorem Arr.block {w w' : World} {b : Nat} {c : Nat → Nat} (h : Arr w b c) (hb : w'.heap[b]? = w.heap[b]?) : Arr w' b c := hb.trans h
theorem Arr.put {w : World} {b : Nat} {c : Nat → Nat} (h : Arr w b c) (d : Nat) (hd : d < 4) : Arr (w.setCell ⟨b, d, none⟩ (.int .i64 ((c d : Int) + 1))) b (fun q => if q = d then c q + 1 else c q) := by
  unfold Arr at h ⊢
  unfold World.setCell
  simp only [Array.getElem?_modify, if_true, h, Option.map_some]
  rcases (show d = 0 ∨ d = 1 ∨ d = 2 ∨ d = 3 by omega) with rfl | rfl | rfl | rfl <;> simp
theorem Arr.putAll {w : World} {b : Nat} {c : Nat → Nat} (h : Arr w b c) (d0 d1 d2 d3 : Value) : ((((w.setCell ⟨b, 0, none⟩ d0).setCell ⟨b, 1, none⟩ d1).setCell ⟨b, 2, none⟩ d2).setCell ⟨b, 3, none⟩ d3).heap[b]? = some (.cells #[d0, d1, d2, d3] 26 (0, 0)) := by
  unfold Arr at h
  simp only [World.setCell, Array.getElem?_modify, if_true, h, Option.map_some]
  simp
theorem resArr {fn : Func} {w : World} {b p : Nat} {cs : Array Value} (h : fn.results = #[.cell p 26]) (tmps : Array Value) (hp : tmps.getD p undef = .pointer (some ⟨b, 0, none⟩)) (hv : w.heap[b]? = some (.cells cs 26 (0, 0))) (hcs : cs.size = 4 := by rfl) : (results fn tmps).run Try.prog w = .ok (.agg cs) w := by
  have hp' : tmps[p]?.getD undef = .pointer (some ⟨b, 0, none⟩) := by simpa using hp
  have hi : (Try.prog.info? 26).map (·.size) = some cs.size := by rw [hcs]; kernel_rfl
  simp [results, h, hp', asAddr, run_loadVar_row w b 26 26 cs (0, 0) _ hv Try.underlying26 rfl hi]
theorem map_block {w w' : World} {b : Nat} {M : List Go.Am.A3} (h : MapAt w b M) (hb : w'.heap[b]? = w.heap[b]?) : MapAt w' b M := by
  obtain ⟨es, clock, h1, h2⟩ := h
  exact ⟨es, clock, hb.trans h1, h2⟩
theorem alloc_far {w : World} {o : Obj} {k : Nat} (h : k < w.heap.size) : (w.alloc o).heap[k]? = w.heap[k]? := by
  simp only [World.alloc]
  rw [Array.getElem?_push, if_neg (by omega)]
theorem alloc_at (w : World) (o : Obj) : (w.alloc o).heap[w.heap.size]? = some o := by
  simp only [World.alloc]
  rw [Array.getElem?_push, if_pos rfl]
def RowL (w : World) (b o : Nat) (L : List Go.Am.A3) : Prop := ∀ i, i < L.length → w.cell? ⟨b, o + i * 3, none⟩ = some (.int .i64 (L.getD i default).x) ∧ w.cell? ⟨b, o + i * 3 + 1, none⟩ = some (.int .i64 (L.getD i default).y) ∧ w.cell? ⟨b, o + i * 3 + 2, none⟩ = some (.int .i64 (L.getD i default).z)
theorem b_alloc {a w : World} (h : Below a.heap.size a w) (o : Obj) : Below a.heap.size a (w.alloc o) := h.alloc h.size o
structure Cm (w : World) (M : List Go.Am.A3) (wr : World) : Prop where
  bel : Below w.heap.size w wr
  map : MapAt wr (w.heap.size + 1 + 1) M
  arr : Arr wr (w.heap.size + 1 + 1 + 1) (Go.Am.cntP M)
  out : Arr wr (w.heap.size + 1) (fun _ => 0)
  size : w.heap.size + 4 ≤ wr.heap.size
theorem Cm.alloc {w wr : World} {M : List Go.Am.A3} (h : Cm w M wr) (o : Obj) : Cm w M (wr.alloc o) := by
  have := h.size
  exact ⟨b_alloc h.bel o, map_block h.map (alloc_far (by omega)), h.arr.block (alloc_far (by omega)), h.out.block (alloc_far (by omega)), by simp only [World.alloc, Array.size_push]; omega⟩
theorem Cm.cong {w wr : World} {M M' : List Go.Am.A3} (h : Cm w M wr) (e : M = M') : Cm w M' wr := e ▸ h
set_option maxRecDepth 100000 in
set_option maxHeartbeats 4000000 in
theorem implCounts (x y z : Int) (L : List Go.Am.A3) (b o cap : Nat) (w : World) (hb : b < w.heap.size) (hr : RowL w b o L) (hl : L.length ≤ 64) (hs : ∀ c ∈ L, (0 ≤ c.x ∧ c.x ≤ 3) ∧ (0 ≤ c.y ∧ c.y ≤ 3) ∧ (0 ≤ c.z ∧ c.z ≤ 3)) :
    Calls Try.prog 18 #[.agg #[.int .i64 x, .int .i64 y, .int .i64 z, .slice (some ⟨b, o, none⟩) L.length cap]] w fun e w' => e = .returned (.agg #[.int .i64 (Go.Am.cntP (Go.Am.metI L L.length) 0 : Int), .int .i64 (Go.Am.cntP (Go.Am.metI L L.length) 1 : Int), .int .i64 (Go.Am.cntP (Go.Am.metI L L.length) 2 : Int), .int .i64 (Go.Am.cntP (Go.Am.metI L L.length) 3 : Int)]) ∧ Below w.heap.size w w' := by
  have Hr := Lib.hid hr
  have Hs := Lib.hid hs
  have hl2 : (L.length : Int) ≤ 64 := by omega
  have hst : Cm w (Go.Am.metI L 0) (((((w.alloc (.cells #[.int .i64 x, .int .i64 y, .int .i64 z, .slice (some ⟨b, o, none⟩) L.length cap] 29)).alloc (.cells #[.int .i64 0, .int .i64 0, .int .i64 0, .int .i64 0] 26)).alloc (.map #[] 0)).alloc (.cells #[.int .i64 0, .int .i64 0, .int .i64 0, .int .i64 0] 26))) := by
    refine ⟨b_alloc (b_alloc (b_alloc (b_alloc (Below.refl _ _) _) _) _) _, ⟨#[], 0, ?_, rfl, by simp⟩, ?_, ?_, ?_⟩
    · simp only [World.alloc]
      rw [Array.getElem?_push, if_neg (by simp only [Array.size_push]; omega), Array.getElem?_push, if_pos (by simp only [Array.size_push])]
    · unfold Arr
      simp only [World.alloc]
      rw [Array.getElem?_push, if_pos (by simp only [Array.size_push])]; rfl
    · unfold Arr
      simp only [World.alloc]
      rw [Array.getElem?_push, if_neg (by simp only [Array.size_push]; omega), Array.getElem?_push, if_neg (by simp only [Array.size_push]; omega), Array.getElem?_push, if_pos (by simp only [Array.size_push])]; rfl
    · simp only [World.alloc, Array.size_push]; omega
  have Hst := Lib.hid hst
  clear hr hs hst
  have hmm := makeMap
  go_enter Try.func18, Try.ntmps18
  go_wp2_with (fail)
  go_loopw [14] (fun i wr => ∃ n : Nat, n ≤ L.length ∧ i = .int .i64 n ∧ Cm w (Go.Am.metI L n) wr) (fun i _ => L.length - (intOf i).toNat)
  case atStart => exact ⟨0, Nat.zero_le _, rfl, Hst.out⟩
  case round =>
    obtain ⟨n, hn, rfl, hm⟩ := hrel
    have Hm := Lib.hid hm
    clear hm
    by_cases hnl : n < L.length
    · have hnl2 : (n : Int) < (L.length : Int) := by omega
      obtain ⟨c, hc⟩ : ∃ c, L.getD n default = c := ⟨_, rfl⟩
      have hcs : (0 ≤ c.x ∧ c.x ≤ 3) ∧ (0 ≤ c.y ∧ c.y ≤ 3) ∧ (0 ≤ c.z ∧ c.z ≤ 3) := by
        refine Hs.out c ?_
        rw [← hc, List.getD_eq_getElem?_getD, List.getElem?_eq_getElem hnl]
        exact List.getElem_mem hnl
      have hrow := Hr.out n hnl
      rw [hc] at hrow
      have hM27 : Go.Am.metI L (n + 1) = Go.Am.metK c (Go.Am.metI L n) 27 := by rw [Go.Am.metI, hc]
      have HM27 := Lib.hid hM27
      obtain ⟨cx, cy, cz⟩ := c
      simp only at hcs hrow
      obtain ⟨⟨hx0, hx3⟩, ⟨hy0, hy3⟩, hz0, hz3⟩ := hcs
      have k1 := (Hm.out.bel.cell (p := ⟨b, o + n * 3, none⟩) hb).trans hrow.1
      have k2 := (Hm.out.bel.cell (p := ⟨b, o + n * 3 + 1, none⟩) hb).trans hrow.2.1
      have k3 := (Hm.out.bel.cell (p := ⟨b, o + n * 3 + 2, none⟩) hb).trans hrow.2.2
      have hln := Go.Am.length_metI L n
      generalize Go.Am.metI L n = M at Hm HM27 hln
      have hml : M.length ≤ 1728 := by omega
      clear hrow hM27 hc hln
      go_wp2_with (fail)
      obtain ⟨G, hG⟩ : ∃ G, wr.heap.size = G := ⟨_, rfl⟩
      have hgs : w.heap.size + 4 ≤ G := by have := Hm.out.size; omega
      rw [hG]
      go_loopw [18] (fun k wi => ∃ m : Nat, m ≤ 27 ∧ k = .int .i64 m ∧ Cm w (Go.Am.metK ⟨cx, cy, cz⟩ M m) wi ∧ wi.heap[G]? = some (.cells #[.int .i64 cx, .int .i64 cy, .int .i64 cz] 46 (0, 0))) (fun k _ => 27 - (intOf k).toNat)
      case atStart => exact ⟨0, Nat.zero_le _, rfl, Hm.out.alloc _, hG ▸ alloc_at _ _⟩
      case round =>
        obtain ⟨m, hm, rfl, hcm, hg⟩ := hrel
        have Hcm := Lib.hid hcm
        have Hg := Lib.hid hg
        clear hcm hg k1 k2 k3
        by_cases hml2 : m < 27
        · have hm2 : (m : Int) < 27 := by omega
          have g1 : wr.cell? ⟨G, 0, none⟩ = some (.int .i64 cx) := by unfold World.cell?; rw [Hg.out]; rfl
          have g2 : wr.cell? ⟨G, 1, none⟩ = some (.int .i64 cy) := by unfold World.cell?; rw [Hg.out]; rfl
          have g3 : wr.cell? ⟨G, 2, none⟩ = some (.int .i64 cz) := by unfold World.cell?; rw [Hg.out]; rfl
          obtain ⟨r1, hr1⟩ : ∃ r1, m % 3 = r1 := ⟨_, rfl⟩
          obtain ⟨q3, hq3⟩ : ∃ q3, m / 3 = q3 := ⟨_, rfl⟩
          obtain ⟨r2, hr2⟩ : ∃ r2, q3 % 3 = r2 := ⟨_, rfl⟩
          obtain ⟨q9, hq9⟩ : ∃ q9, m / 9 = q9 := ⟨_, rfl⟩
          have a1 : Int.tmod (m : Int) 3 = (r1 : Int) := by rw [← hr1]; exact (Int.ofNat_tmod m 3).symm
          have a2 : (m : Int) % 3 = (r1 : Int) := by omega
          have a3 : Int.tdiv (m : Int) 3 = (q3 : Int) := by rw [← hq3]; exact (Int.ofNat_tdiv m 3).symm
          have a4 : (m : Int) / 3 = (q3 : Int) := by omega
          have a5 : Int.tmod (q3 : Int) 3 = (r2 : Int) := by rw [← hr2]; exact (Int.ofNat_tmod q3 3).symm
          have a6 : (q3 : Int) % 3 = (r2 : Int) := by omega
          have a7 : Int.tdiv (m : Int) 9 = (q9 : Int) := by rw [← hq9]; exact (Int.ofNat_tdiv m 9).symm
          have a8 : (m : Int) / 9 = (q9 : Int) := by omega
          have b1 : (r1 : Int) ≤ 2 := by omega
          have b2 : (r2 : Int) ≤ 2 := by omega
          have b3 : (q9 : Int) ≤ 2 := by omega
          have b4 : (q3 : Int) ≤ 8 := by omega
          obtain ⟨px, hpx⟩ : ∃ px, 2 * cx + (r1 : Int) = px := ⟨_, rfl⟩
          obtain ⟨py, hpy⟩ : ∃ py, 2 * cy + (r2 : Int) = py := ⟨_, rfl⟩
          obtain ⟨pz, hpz⟩ : ∃ pz, 2 * cz + (q9 : Int) = pz := ⟨_, rfl⟩
          have hpt : Go.Am.pt ⟨cx, cy, cz⟩ m = ⟨px, py, pz⟩ := by
            simp only [Go.Am.pt, Go.Am.A3.mk.injEq]
            omega
          have hadd : Go.Am.metK ⟨cx, cy, cz⟩ M (m + 1) = Go.Am.addP (Go.Am.metK ⟨cx, cy, cz⟩ M m) ⟨px, py, pz⟩ := by rw [Go.Am.metK, hpt]
          have Hadd := Lib.hid hadd
          have hlen := Go.Am.length_metK ⟨cx, cy, cz⟩ M m
          generalize Go.Am.metK ⟨cx, cy, cz⟩ M m = M' at Hcm Hadd hlen
          have hlm : M'.length ≤ 2000 := by omega
          have Hlm := Lib.hid hlm
          have px0 : 0 ≤ px := by omega
          have px8 : px ≤ 8 := by omega
          have py0 : 0 ≤ py := by omega
          have py8 : py ≤ 8 := by omega
          have pz0 : 0 ≤ pz := by omega
          have pz8 : pz ≤ 8 := by omega
          clear hadd hpt hr1 hq3 hr2 hq9 hlm hlen
          by_cases hp : (⟨px, py, pz⟩ : Go.Am.A3) ∈ M'
          · have hlk : ∀ o', (Instr.lookup 54 (.map (some (w.heap.size + 1 + 1))) (.agg #[.int .i64 px, .int .i64 py, .int .i64 pz]) false).run Try.prog (wr.alloc o') = .ok (.bool true) (wr.alloc o') := fun o' => by
              have h := look _ _ _ (Hcm.out.alloc o').map px py pz
              rw [decide_eq_true hp] at h
              exact h
            go_wp2_with (fail)
            go_roundw
            case rel => exact ⟨m + 1, by omega, by go_num, (Hcm.out.alloc _).cong (by rw [Hadd.out, Go.Am.addP, if_pos hp]), (alloc_far (lt_of_block Hg.out)).trans Hg.out⟩
            case measure => simp [intOf]; omega
          · have hlk : ∀ o', (Instr.lookup 54 (.map (some (w.heap.size + 1 + 1))) (.agg #[.int .i64 px, .int .i64 py, .int .i64 pz]) false).run Try.prog (wr.alloc o') = .ok (.bool false) (wr.alloc o') := fun o' => by
              have h := look _ _ _ (Hcm.out.alloc o').map px py pz
              rw [decide_eq_false hp] at h
              exact h
            obtain ⟨ob, hup, hmap⟩ := update (wr.alloc (.cells #[.int .i64 px, .int .i64 py, .int .i64 pz] 46)) (w.heap.size + 1 + 1) M' (Hcm.out.alloc _).map px py pz hp
            obtain ⟨e1, c1⟩ : ∃ e1 : Nat, px % 2 = (e1 : Int) := ⟨(px % 2).toNat, by omega⟩
            obtain ⟨e2, c2⟩ : ∃ e2 : Nat, py % 2 = (e2 : Int) := ⟨(py % 2).toNat, by omega⟩
            obtain ⟨e3, c3⟩ : ∃ e3 : Nat, pz % 2 = (e3 : Int) := ⟨(pz % 2).toNat, by omega⟩
            have d1 : Int.tmod px 2 = (e1 : Int) := by rw [Int.tmod_eq_emod_of_nonneg px0]; exact c1
            have d2 : Int.tmod py 2 = (e2 : Int) := by rw [Int.tmod_eq_emod_of_nonneg py0]; exact c2
            have d3 : Int.tmod pz 2 = (e3 : Int) := by rw [Int.tmod_eq_emod_of_nonneg pz0]; exact c3
            have f1 : (e1 : Int) ≤ 1 := by omega
            have f2 : (e2 : Int) ≤ 1 := by omega
            have f3 : (e3 : Int) ≤ 1 := by omega
            obtain ⟨d, hd⟩ : ∃ d : Nat, (e1 : Int) + (e2 : Int) + (e3 : Int) = (d : Int) := ⟨e1 + e2 + e3, by simp⟩
            have hd4 : d < 4 := by omega
            have hd4i : (d : Int) < 4 := by omega
            have hpar : Go.Am.par ⟨px, py, pz⟩ = d := by
              unfold Go.Am.par
              simp only [c1, c2, c3]
              omega
            have hW2 := Hcm.out.alloc (.cells #[.int .i64 px, .int .i64 py, .int .i64 pz] 46)
            have hfar : ∀ k, k ≠ w.heap.size + 1 + 1 → (mapSet (wr.alloc (.cells #[.int .i64 px, .int .i64 py, .int .i64 pz] 46)) (w.heap.size + 1 + 1) ob).heap[k]? = (wr.alloc (.cells #[.int .i64 px, .int .i64 py, .int .i64 pz] 46)).heap[k]? := fun k hk => mapSet_far hk
            have hsz := Hcm.out.size
            have hg8 := (hfar wr.heap.size (by omega)).trans (alloc_at wr _)
            have g4 : (mapSet (wr.alloc (.cells #[.int .i64 px, .int .i64 py, .int .i64 pz] 46)) (w.heap.size + 1 + 1) ob).cell? ⟨wr.heap.size, 0, none⟩ = some (.int .i64 px) := by unfold World.cell?; rw [hg8]; rfl
            have g5 : (mapSet (wr.alloc (.cells #[.int .i64 px, .int .i64 py, .int .i64 pz] 46)) (w.heap.size + 1 + 1) ob).cell? ⟨wr.heap.size, 1, none⟩ = some (.int .i64 py) := by unfold World.cell?; rw [hg8]; rfl
            have g6 : (mapSet (wr.alloc (.cells #[.int .i64 px, .int .i64 py, .int .i64 pz] 46)) (w.heap.size + 1 + 1) ob).cell? ⟨wr.heap.size, 2, none⟩ = some (.int .i64 pz) := by unfold World.cell?; rw [hg8]; rfl
            have harr := hW2.arr.block (hfar (w.heap.size + 1 + 1 + 1) (by omega))
            have Harr := Lib.hid (harr.put d hd4)
            obtain ⟨g7, fz⟩ := harr.at d hd4
            have hN : ((Go.Am.cntP M' d : Nat) : Int) ≤ 2000 := by have := Go.Am.cntP_le M' d; have := Hlm.out; omega
            have HW2 := Lib.hid hW2
            have Hfar := Lib.hid hfar
            have Hmap := Lib.hid hmap
            clear hW2 hfar hmap hg8 harr c1 c2 c3 hsz
            generalize hW : mapSet (wr.alloc (.cells #[.int .i64 px, .int .i64 py, .int .i64 pz] 46)) (w.heap.size + 1 + 1) ob = W2 at *
            have HW := Lib.hid hW
            clear hW
            go_wp2_with (fail)
            have hE : Go.Am.metK ⟨cx, cy, cz⟩ M (m + 1) = M' ++ [⟨px, py, pz⟩] := by rw [Hadd.out, Go.Am.addP, if_neg hp]
            have hC : (fun q => if q = d then Go.Am.cntP M' q + 1 else Go.Am.cntP M' q) = Go.Am.cntP (M' ++ [⟨px, py, pz⟩]) := funext fun q => by
              have h := Go.Am.cntP_add hp q
              rw [Go.Am.addP, if_neg hp, hpar] at h
              exact h.symm
            have hset : ∀ k, k ≠ w.heap.size + 1 + 1 + 1 → (W2.setCell ⟨w.heap.size + 1 + 1 + 1, d, none⟩ (.int .i64 ((Go.Am.cntP M' d : Int) + 1))).heap[k]? = W2.heap[k]? := fun k hk => Below.heap_setCell W2 ⟨w.heap.size + 1 + 1 + 1, d, none⟩ _ k hk
            have hb2 : Below w.heap.size w W2 := HW.out ▸ mapSet_below HW2.out.bel (by omega)
            have hs2 : W2.heap.size = wr.heap.size + 1 := by rw [← HW.out]; unfold mapSet; simp only [Array.size_setIfInBounds, World.alloc, Array.size_push]
            have hgl := lt_of_block Hg.out
            have hws := Hcm.out.size
            go_roundw
            case rel =>
              refine ⟨m + 1, by omega, by go_num, Cm.cong ⟨hb2.setCell (by simp only; omega) _, map_block Hmap.out (hset _ (by omega)), hC ▸ Harr.out, (HW2.out.out.block (Hfar.out _ (by omega))).block (hset _ (by omega)), ?_⟩ hE.symm, ?_⟩
              · simp only [World.setCell, Array.size_modify]; omega
              · exact (hset G (by omega)).trans ((Hfar.out G (by omega)).trans ((alloc_far hgl).trans Hg.out))
            case measure => simp [intOf]; omega
        · have hm2 : ¬ (m : Int) < 27 := by omega
          obtain rfl : m = 27 := by omega
          have Hcm2 := Lib.hid (Hcm.out.cong HM27.out.symm)
          clear Hcm
          go_wp2_with (fail)
          go_roundw
          case rel => exact ⟨n + 1, by omega, by go_num, Hcm2.out⟩
          case measure => simp [intOf]; omega
    · have hnl2 : ¬ (n : Int) < (L.length : Int) := by omega
      have hnl3 : n = L.length := by omega
      have Hend := Lib.hid (hnl3 ▸ Hm.out : Cm w (Go.Am.metI L L.length) wr)
      clear Hm hnl3
      obtain ⟨k0, _⟩ := Hend.out.arr.at 0 (by decide)
      obtain ⟨k1, _⟩ := Hend.out.arr.at 1 (by decide)
      obtain ⟨k2, _⟩ := Hend.out.arr.at 2 (by decide)
      obtain ⟨k3, _⟩ := Hend.out.arr.at 3 (by decide)
      obtain ⟨o0, f0⟩ := Hend.out.out.at 0 (by decide)
      obtain ⟨o1, f1⟩ := Hend.out.out.at 1 (by decide)
      obtain ⟨o2, f2⟩ := Hend.out.out.at 2 (by decide)
      obtain ⟨o3, f3⟩ := Hend.out.out.at 3 (by decide)
      go_wp2_with (fail)
      all_goals (refine bodyPost_ret (resArr rfl _ rfl (Hend.out.out.putAll _ _ _ _)) rfl ?_; exact ⟨rfl, (((Hend.out.bel.setCell (by simp only; omega) _).setCell (by simp only; omega) _).setCell (by simp only; omega) _).setCell (by simp only; omega) _⟩)
end Go.Proofs.Yteohlhpdbnhbaaa
namespace Go.Proofs.Yteohlhpdbnhbaaa
open Go.RowKit F
abbrev heapV (X Y Z : Nat) (sl : Value) : Value := .agg #[.int .i64 (X : Int), .int .i64 (Y : Int), .int .i64 (Z : Int), sl]
theorem rep_below {w w1 : World} {l : Go.Am.Loc} {r : Go.Am.Row} (h : ∀ ρ : Go.Am.Ren, Go.Am.RepRow Try.prog ρ w l r) (hb : Below w.heap.size w w1) : ∀ ρ : Go.Am.Ren, Go.Am.RepRow Try.prog ρ w1 l r := fun ρ => by
  have hlt := (h ρ).lt
  obtain ⟨⟨cur, e, fz, hk, hc, hw, hn⟩, hs⟩ := h ρ
  exact ⟨⟨cur, e, fz, (hb.block _ hlt).trans hk, hc, hw, hn⟩, hs⟩
theorem rep_row {W : World} {l : Go.Am.Loc} {L : List Go.Am.A3} (h : ∀ ρ : Go.Am.Ren, Go.Am.RepRow Try.prog ρ W l ⟨Go.Am.a3s L, 46, false, false⟩) : Go.Am.Rep Try.prog (fun _ => l) [some ⟨Go.Am.a3s L, 46, false, false⟩] W :=
  Go.Am.rep_ro (Go.Am.FlatH.nil.cons (Go.Am.flatA3 _ _ _ _)) fun i r hi => by
    cases i with
    | zero => simp at hi; subst hi; exact ⟨rfl, h _⟩
    | succ i => simp at hi
abbrev slV (l : Go.Am.Loc) (n : Nat) : Value := .slice (some ⟨l.blk, l.off, none⟩) n l.cap
theorem callIn {X Y Z : Nat} {L : List Go.Am.A3} (hs : Go.Am.Sides X Y Z) (hL : Go.Am.HeapL X Y Z L) {a b c : Int} (hb : (0 ≤ a ∧ a ≤ 8) ∧ (0 ≤ b ∧ b ≤ 8) ∧ (0 ≤ c ∧ c ≤ 8)) {l : Go.Am.Loc} {W : World} (hr : ∀ ρ : Go.Am.Ren, Go.Am.RepRow Try.prog ρ W l ⟨Go.Am.a3s L, 46, false, false⟩) :
    Calls Try.prog 25 #[heapV X Y Z (slV l L.length), .agg #[.int .i64 a, .int .i64 b, .int .i64 c]] W fun e w' => e = .returned (.bool (Go.Am.inC L a b c)) ∧ Below W.heap.size W w' := by
  have h := (l6InB X Y Z L a b c hs hL hb).top (fun i r hi => by
    cases i with
    | zero => simp at hi; subst hi; rfl
    | succ i => simp at hi) (rep_row hr) (by simp [Go.Am.idsV, Go.Am.idsA, Go.Am.idsS, Go.Am.idsP]) rfl
  simpa [Go.Am.mapV, Go.Am.mpV, Go.Am.mpA, Go.Am.mpS, Go.Am.mpP, Go.Am.toReal] using h
structure Gm (w : World) (X Y Z : Nat) (sl : Value) (c : Nat → Nat) (wr : World) : Prop where
  bel : Below w.heap.size w wr
  hv : wr.heap[w.heap.size]? = some (.cells #[.int .i64 (X : Int), .int .i64 (Y : Int), .int .i64 (Z : Int), sl] 29 (0, 0))
  arr : Arr wr (w.heap.size + 1 + 1) c
  out : Arr wr (w.heap.size + 1) (fun _ => 0)
theorem Gm.below {w wr w2 : World} {X Y Z : Nat} {sl : Value} {c : Nat → Nat} (h : Gm w X Y Z sl c wr) (hb : Below wr.heap.size wr w2) : Gm w X Y Z sl c w2 :=
  ⟨h.bel.trans (hb.mono h.bel.size), (hb.block _ (lt_of_block h.hv)).trans h.hv, h.arr.block (hb.block _ (lt_of_block h.arr)), h.out.block (hb.block _ (lt_of_block h.out))⟩
theorem Gm.cong {w wr : World} {X Y Z : Nat} {sl : Value} {c c' : Nat → Nat} (h : Gm w X Y Z sl c wr) (e : ∀ q, c q = c' q) : Gm w X Y Z sl c' wr := (funext e : c = c') ▸ h
theorem Gm.put {w wr : World} {X Y Z : Nat} {sl : Value} {c : Nat → Nat} (h : Gm w X Y Z sl c wr) (d : Nat) (hd : d < 4) : Gm w X Y Z sl (fun q => if q = d then c q + 1 else c q) (wr.setCell ⟨w.heap.size + 1 + 1, d, none⟩ (.int .i64 ((c d : Int) + 1))) := by
  have far : ∀ k, k ≠ w.heap.size + 1 + 1 → (wr.setCell ⟨w.heap.size + 1 + 1, d, none⟩ (.int .i64 ((c d : Int) + 1))).heap[k]? = wr.heap[k]? := fun k hk => Below.heap_setCell wr ⟨w.heap.size + 1 + 1, d, none⟩ _ k hk
  exact ⟨h.bel.setCell (by simp only; omega) _, (far _ (by omega)).trans h.hv, h.arr.put d hd, h.out.block (far _ (by omega))⟩
theorem Gm.vars {w wr : World} {X Y Z : Nat} {sl : Value} {c : Nat → Nat} (h : Gm w X Y Z sl c wr) : wr.cell? ⟨w.heap.size, 0, none⟩ = some (.int .i64 (X : Int)) ∧ wr.cell? ⟨w.heap.size, 1, none⟩ = some (.int .i64 (Y : Int)) ∧ wr.cell? ⟨w.heap.size, 2, none⟩ = some (.int .i64 (Z : Int)) ∧ wr.cell? ⟨w.heap.size, 3, none⟩ = some sl := by
  refine ⟨?_, ?_, ?_, ?_⟩ <;> (unfold World.cell?; rw [h.hv]; rfl)
set_option maxRecDepth 100000 in
set_option maxHeartbeats 4000000 in
theorem specCounts {X Y Z : Nat} {L : List Go.Am.A3} (hs : Go.Am.Sides X Y Z) (hL : Go.Am.HeapL X Y Z L) (l : Go.Am.Loc) (w : World) (hr : ∀ ρ : Go.Am.Ren, Go.Am.RepRow Try.prog ρ w l ⟨Go.Am.a3s L, 46, false, false⟩) (C : Nat → Nat) (hC : ∀ q, Go.Am.sX L q (2 * Y + 1) (2 * Z + 1) (2 * X + 1) = C q) :
    Calls Try.prog 15 #[heapV X Y Z (slV l L.length)] w fun e w' => e = .returned (.agg #[.int .i64 (C 0 : Int), .int .i64 (C 1 : Int), .int .i64 (C 2 : Int), .int .i64 (C 3 : Int)]) ∧ Below w.heap.size w w' := by
  have hx4 : (X : Int) ≤ 4 := by have := hs.x4; omega
  have hy4 : (Y : Int) ≤ 4 := by have := hs.y4; omega
  have hz4 : (Z : Int) ≤ 4 := by have := hs.z4; omega
  have hx4n := hs.x4
  have hy4n := hs.y4
  have hz4n := hs.z4
  have hst : Gm w X Y Z (slV l L.length) (fun _ => 0) (((w.alloc (.cells #[.int .i64 (X : Int), .int .i64 (Y : Int), .int .i64 (Z : Int), slV l L.length] 29)).alloc (.cells #[.int .i64 0, .int .i64 0, .int .i64 0, .int .i64 0] 26)).alloc (.cells #[.int .i64 0, .int .i64 0, .int .i64 0, .int .i64 0] 26)) := by
    refine ⟨b_alloc (b_alloc (b_alloc (Below.refl _ _) _) _) _, ?_, ?_, ?_⟩
    · simp only [World.alloc]
      rw [Array.getElem?_push, if_neg (by simp only [Array.size_push]; omega), Array.getElem?_push, if_neg (by simp only [Array.size_push]; omega), Array.getElem?_push, if_pos rfl]
    · unfold Arr
      simp only [World.alloc]
      rw [Array.getElem?_push, if_pos (by simp only [Array.size_push])]; rfl
    · unfold Arr
      simp only [World.alloc]
      rw [Array.getElem?_push, if_neg (by simp only [Array.size_push]; omega), Array.getElem?_push, if_pos (by simp only [Array.size_push])]; rfl
  have hin := fun (a b c : Int) (W : World) (hW : Below w.heap.size w W) (hb : (0 ≤ a ∧ a ≤ 8) ∧ (0 ≤ b ∧ b ≤ 8) ∧ (0 ≤ c ∧ c ≤ 8)) => callIn hs hL hb (rep_below hr hW)
  have Hst := Lib.hid hst
  have Hin := Lib.hid hin
  have HC := Lib.hid hC
  clear hst hin hr hC
  go_enter Try.func15, Try.ntmps15
  go_wp2_with (fail)
  go_loopw [4] (fun i wr => ∃ n : Nat, n ≤ 2 * X + 1 ∧ i = .int .i64 n ∧ Gm w X Y Z (slV l L.length) (fun q => Go.Am.sX L q (2 * Y + 1) (2 * Z + 1) n) wr) (fun i _ => 2 * X + 1 - (intOf i).toNat)
  case atStart => exact ⟨0, Nat.zero_le _, rfl, Hst.out.cong fun q => rfl⟩
  case round =>
    obtain ⟨i, hi, rfl, hm⟩ := hrel
    have Hm := Lib.hid hm
    obtain ⟨v0, v1, v2, v3⟩ := hm.vars
    clear hm
    by_cases hix : i < 2 * X + 1
    · have hi2 : (i : Int) ≤ 2 * (X : Int) := by omega
      have hi8 : (i : Int) ≤ 8 := by omega
      go_wp2_with (fail)
      go_loopw [5] (fun i' wr => ∃ n : Nat, n ≤ 2 * Y + 1 ∧ i' = .int .i64 n ∧ Gm w X Y Z (slV l L.length) (fun q => Go.Am.sX L q (2 * Y + 1) (2 * Z + 1) i + Go.Am.sY L q (2 * Z + 1) i n) wr) (fun i' _ => 2 * Y + 1 - (intOf i').toNat)
      case atStart => exact ⟨0, Nat.zero_le _, rfl, Hm.out.cong fun q => rfl⟩
      case round =>
        clear Hm v0 v1 v2 v3
        obtain ⟨j, hj, rfl, hm⟩ := hrel
        have Hm := Lib.hid hm
        obtain ⟨v0, v1, v2, v3⟩ := hm.vars
        clear hm
        by_cases hjy : j < 2 * Y + 1
        · have hj2 : (j : Int) ≤ 2 * (Y : Int) := by omega
          have hj8 : (j : Int) ≤ 8 := by omega
          go_wp2_with (fail)
          go_loopw [6] (fun i' wr => ∃ n : Nat, n ≤ 2 * Z + 1 ∧ i' = .int .i64 n ∧ Gm w X Y Z (slV l L.length) (fun q => Go.Am.sX L q (2 * Y + 1) (2 * Z + 1) i + Go.Am.sY L q (2 * Z + 1) i j + Go.Am.sZ L q i j n) wr) (fun i' _ => 2 * Z + 1 - (intOf i').toNat)
          case atStart => exact ⟨0, Nat.zero_le _, rfl, Hm.out.cong fun q => rfl⟩
          case round =>
            clear Hm v0 v1 v2 v3
            obtain ⟨k, hk, rfl, hm⟩ := hrel
            obtain ⟨v0, v1, v2, v3⟩ := hm.vars
            obtain ⟨c, hc⟩ : ∃ c : Nat → Nat, c = fun q => Go.Am.sX L q (2 * Y + 1) (2 * Z + 1) i + Go.Am.sY L q (2 * Z + 1) i j + Go.Am.sZ L q i j k := ⟨_, rfl⟩
            rw [← hc] at hm
            have Hm := Lib.hid hm
            have Hc := Lib.hid hc
            clear hm hc
            by_cases hkz : k < 2 * Z + 1
            · have hk2 : (k : Int) ≤ 2 * (Z : Int) := by omega
              have hk8 : (k : Int) ≤ 8 := by omega
              have hcl := Hin.out (i : Int) (j : Int) (k : Int) wr Hm.out.bel ⟨⟨by omega, hi8⟩, ⟨by omega, hj8⟩, by omega, hk8⟩
              cases hb : Go.Am.inC L i j k with
              | false =>
                rw [hb] at hcl
                go_wp2_with (go_at_call 25; refine hcl.mono ?_; rintro e w2 ⟨rfl, hb2⟩; refine Hid.out ?_)
                refine Lib.hid ?_
                go_wp2_with (fail)
                go_roundw
                case rel =>
                  refine ⟨k + 1, by omega, by go_num, (Hm.out.below hb2).cong fun q => ?_⟩
                  have h0 : Go.Am.hit L q i j k = 0 := by unfold Go.Am.hit; rw [hb]; simp
                  rw [Hc.out]
                  simp only [Go.Am.sZ, h0, Nat.add_zero]
                case measure => simp [intOf]; omega
              | true =>
                rw [hb] at hcl
                obtain ⟨e1, c1⟩ : ∃ e1, i % 2 = e1 := ⟨_, rfl⟩
                obtain ⟨e2, c2⟩ : ∃ e2, j % 2 = e2 := ⟨_, rfl⟩
                obtain ⟨e3, c3⟩ : ∃ e3, k % 2 = e3 := ⟨_, rfl⟩
                have d1 : Int.tmod (i : Int) 2 = (e1 : Int) := by rw [← c1]; exact (Int.ofNat_tmod i 2).symm
                have d2 : Int.tmod (j : Int) 2 = (e2 : Int) := by rw [← c2]; exact (Int.ofNat_tmod j 2).symm
                have d3 : Int.tmod (k : Int) 2 = (e3 : Int) := by rw [← c3]; exact (Int.ofNat_tmod k 2).symm
                have d4 : (i : Int) % 2 = (e1 : Int) := by omega
                have d5 : (j : Int) % 2 = (e2 : Int) := by omega
                have d6 : (k : Int) % 2 = (e3 : Int) := by omega
                have f1 : (e1 : Int) ≤ 1 := by omega
                have f2 : (e2 : Int) ≤ 1 := by omega
                have f3 : (e3 : Int) ≤ 1 := by omega
                obtain ⟨d, hd⟩ : ∃ d : Nat, (e1 : Int) + (e2 : Int) + (e3 : Int) = (d : Int) := ⟨e1 + e2 + e3, by simp⟩
                have hd4 : d < 4 := by omega
                have hd4i : (d : Int) < 4 := by omega
                have hdd : i % 2 + j % 2 + k % 2 = d := by omega
                have hcd : ((c d : Nat) : Int) ≤ 2000 := by
                  have h1 := Go.Am.sX_le L d (2 * Y + 1) (2 * Z + 1) i
                  have h2 := Go.Am.sY_le L d (2 * Z + 1) i j
                  have h3 := Go.Am.sZ_le L d i j k
                  have h4 : (2 * Y + 1) * (2 * Z + 1) ≤ 9 * 9 := Nat.mul_le_mul (by omega) (by omega)
                  have h5 : i * ((2 * Y + 1) * (2 * Z + 1)) ≤ 8 * (9 * 9) := Nat.mul_le_mul (by omega) h4
                  have h6 : j * (2 * Z + 1) ≤ 8 * 9 := Nat.mul_le_mul (by omega) (by omega)
                  rw [Hc.out]
                  simp only
                  omega
                have Hdd := Lib.hid hdd
                clear hdd c1 c2 c3
                go_wp2_with (go_at_call 25; refine hcl.mono ?_; rintro e w2 ⟨rfl, hb2⟩; have Hm2 := Lib.hid (Hm.out.below hb2); obtain ⟨g7, fz⟩ := Hm2.out.arr.at d hd4; refine Hid.out ?_)
                refine Lib.hid ?_
                go_wp2_with (fail)
                go_roundw
                case rel =>
                  refine ⟨k + 1, by omega, by go_num, (Hm2.out.put d hd4).cong fun q => ?_⟩
                  have h0 : Go.Am.hit L q i j k = if q = d then 1 else 0 := by unfold Go.Am.hit; rw [hb, Hdd.out]; simp
                  rw [Hc.out]
                  simp only [Go.Am.sZ, h0]
                  split <;> omega
                case measure => simp [intOf]; omega
            · have hk2 : ¬ (k : Int) ≤ 2 * (Z : Int) := by omega
              have hk3 : (2 * (Z : Int)) < (k : Int) := by omega
              have hk4 : k = 2 * Z + 1 := by omega
              rw [Hc.out, hk4] at Hm
              clear hk4
              have hki : (k : Int) ≤ 9 := by omega
              go_wp2_with (fail)
              go_roundw
              case rel => exact ⟨j + 1, by omega, by go_num, Hm.out.cong fun q => by simp only [Go.Am.sY]; omega⟩
              case measure => simp [intOf]; omega
        · have hj2 : ¬ (j : Int) ≤ 2 * (Y : Int) := by omega
          have hj3 : (2 * (Y : Int)) < (j : Int) := by omega
          have hj4 : j = 2 * Y + 1 := by omega
          have hji : (j : Int) ≤ 9 := by omega
          have Hm2 := Lib.hid (hj4 ▸ Hm.out : Gm w X Y Z (slV l L.length) (fun q => Go.Am.sX L q (2 * Y + 1) (2 * Z + 1) i + Go.Am.sY L q (2 * Z + 1) i (2 * Y + 1)) wr)
          clear hj4 Hm
          go_wp2_with (fail)
          go_roundw
          case rel => exact ⟨i + 1, by omega, by go_num, Hm2.out.cong fun q => by simp only [Go.Am.sX]⟩
          case measure => simp [intOf]; omega
    · have hi2 : ¬ (i : Int) ≤ 2 * (X : Int) := by omega
      have hi3 : (2 * (X : Int)) < (i : Int) := by omega
      have hi4 : i = 2 * X + 1 := by omega
      have hii : (i : Int) ≤ 9 := by omega
      have Hend := Lib.hid ((hi4 ▸ Hm.out : Gm w X Y Z (slV l L.length) (fun q => Go.Am.sX L q (2 * Y + 1) (2 * Z + 1) (2 * X + 1)) wr).cong HC.out)
      clear hi4 Hm
      obtain ⟨k0, _⟩ := Hend.out.arr.at 0 (by decide)
      obtain ⟨k1, _⟩ := Hend.out.arr.at 1 (by decide)
      obtain ⟨k2, _⟩ := Hend.out.arr.at 2 (by decide)
      obtain ⟨k3, _⟩ := Hend.out.arr.at 3 (by decide)
      obtain ⟨o0, f0⟩ := Hend.out.out.at 0 (by decide)
      obtain ⟨o1, f1⟩ := Hend.out.out.at 1 (by decide)
      obtain ⟨o2, f2⟩ := Hend.out.out.at 2 (by decide)
      obtain ⟨o3, f3⟩ := Hend.out.out.at 3 (by decide)
      go_wp2_with (fail)
      all_goals (refine bodyPost_ret (resArr rfl _ rfl (Hend.out.out.putAll _ _ _ _)) rfl ?_; exact ⟨rfl, (((Hend.out.bel.setCell (by simp only; omega) _).setCell (by simp only; omega) _).setCell (by simp only; omega) _).setCell (by simp only; omega) _⟩)
end Go.Proofs.Yteohlhpdbnhbaaa
namespace Go.Proofs.Yteohlhpdbnhbaaa
open Go.RowKit F
theorem a3s_at : ∀ (L : List Go.Am.A3) (i : Nat), i < L.length → (Go.Am.a3s L)[i * 3]? = some (.int .i64 (L.getD i default).x) ∧ (Go.Am.a3s L)[i * 3 + 1]? = some (.int .i64 (L.getD i default).y) ∧ (Go.Am.a3s L)[i * 3 + 2]? = some (.int .i64 (L.getD i default).z)
  | [], i, h => by simp at h
  | c :: L, 0, _ => by simp [Go.Am.a3s, Go.Am.A3.cs]
  | c :: L, i + 1, h => by
    have h1 := a3s_at L i (by simpa using h)
    have e : Go.Am.a3s (c :: L) = c.cs ++ Go.Am.a3s L := rfl
    have e2 : ∀ k, (c.cs ++ Go.Am.a3s L)[3 + k]? = (Go.Am.a3s L)[k]? := fun k => by
      rw [List.getElem?_append_right (by simp [Go.Am.A3.cs])]
      simp [Go.Am.A3.cs]
    rw [e, show (i + 1) * 3 = 3 + i * 3 by omega, show 3 + i * 3 + 1 = 3 + (i * 3 + 1) by omega, show 3 + i * 3 + 2 = 3 + (i * 3 + 2) by omega, e2, e2, e2]
    simpa using h1
theorem rowL_of {W : World} {l : Go.Am.Loc} {L : List Go.Am.A3} (h : ∀ ρ : Go.Am.Ren, Go.Am.RepRow Try.prog ρ W l ⟨Go.Am.a3s L, 46, false, false⟩) : RowL W l.blk l.off L := by
  obtain ⟨⟨cur, e, fz, hb, hc, _⟩, _⟩ := h (fun _ => l)
  have hk : ∀ (j : Nat) (u : Int), (Go.Am.a3s L)[j]? = some (.int .i64 u) → W.cell? ⟨l.blk, l.off + j, none⟩ = some (.int .i64 u) := fun j u hj => by
    have h1 := hc j _ hj
    unfold World.cell?
    rw [hb]
    simpa [Go.Am.mapS, Go.Am.mpS, Go.Am.mpP] using h1
  intro i hi
  obtain ⟨h1, h2, h3⟩ := a3s_at L i hi
  exact ⟨hk _ _ h1, hk _ _ h2, hk _ _ h3⟩
theorem can15 : Go.Am.Callable Try.prog 15 := ⟨_, Try.func15, by kernel_rfl, rfl⟩
theorem can18 : Go.Am.Callable Try.prog 18 := ⟨_, Try.func18, by kernel_rfl, rfl⟩
abbrev resV (L : List Go.Am.A3) : Value := .agg #[.int .i64 (Go.Am.cntP (Go.Am.metI L L.length) 0 : Int), .int .i64 (Go.Am.cntP (Go.Am.metI L L.length) 1 : Int), .int .i64 (Go.Am.cntP (Go.Am.metI L L.length) 2 : Int), .int .i64 (Go.Am.cntP (Go.Am.metI L L.length) 3 : Int)]
theorem cells_small {X Y Z : Nat} {L : List Go.Am.A3} (hs : Go.Am.Sides X Y Z) (hL : Go.Am.HeapL X Y Z L) : ∀ c ∈ L, (0 ≤ c.x ∧ c.x ≤ 3) ∧ (0 ≤ c.y ∧ c.y ≤ 3) ∧ (0 ≤ c.z ∧ c.z ≤ 3) := fun c hc => by
  have h := Go.Am.has3_iff.1 (hL.mem_has hs hc)
  have := hs.x4; have := hs.y4; have := hs.z4
  omega
theorem implCountsS {X Y Z : Nat} {L : List Go.Am.A3} (hs : Go.Am.Sides X Y Z) (hL : Go.Am.HeapL X Y Z L) : Go.Am.Sound Try.prog 18 [.agg #[.int .i64 (X : Int), .int .i64 (Y : Int), .int .i64 (Z : Int), Go.Am.vS 0 L.length]] [some ⟨Go.Am.a3s L, 46, false, false⟩] (resV L) [some ⟨Go.Am.a3s L, 46, false, false⟩] :=
  Go.Am.Sound.of1 can18 (Go.Am.flatA3 _ _ _ _) rfl rfl (fun l W hr => by
    have hlt := (hr (fun _ => l)).lt
    have h := implCounts X Y Z L l.blk l.off l.cap W hlt (rowL_of hr) (Nat.le_trans hL.len hs.size) (cells_small hs hL)
    simpa [Go.Am.mapV, Go.Am.mpV, Go.Am.mpA, Go.Am.mpS, Go.Am.mpP, Go.Am.toReal] using h) (by simp [Go.Am.idsV, Go.Am.idsA, Go.Am.idsS, Go.Am.idsP])
theorem specCountsS {X Y Z : Nat} {L : List Go.Am.A3} (hs : Go.Am.Sides X Y Z) (hL : Go.Am.HeapL X Y Z L) : Go.Am.Sound Try.prog 15 [.agg #[.int .i64 (X : Int), .int .i64 (Y : Int), .int .i64 (Z : Int), Go.Am.vS 0 L.length]] [some ⟨Go.Am.a3s L, 46, false, false⟩] (resV L) [some ⟨Go.Am.a3s L, 46, false, false⟩] :=
  Go.Am.Sound.of1 can15 (Go.Am.flatA3 _ _ _ _) rfl rfl (fun l W hr => by
    have h := specCounts hs hL l W hr _ (Go.Am.counts_same hs hL)
    simpa [Go.Am.mapV, Go.Am.mpV, Go.Am.mpA, Go.Am.mpS, Go.Am.mpP, Go.Am.toReal] using h) (by simp [Go.Am.idsV, Go.Am.idsA, Go.Am.idsS, Go.Am.idsP])
theorem cnt_lt {X Y Z : Nat} {L : List Go.Am.A3} (hs : Go.Am.Sides X Y Z) (hL : Go.Am.HeapL X Y Z L) (q : Nat) : Go.Am.cntP (Go.Am.metI L L.length) q ≤ 1728 := by
  have h1 := Go.Am.cntP_le (Go.Am.metI L L.length) q
  have h2 := Go.Am.length_metI L L.length
  have h3 := Nat.le_trans hL.len hs.size
  omega
end Go.Proofs.Yteohlhpdbnhbaaa
