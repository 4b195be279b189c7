/- Several texts, one behind the other. Conditions: as each of them says. -/
import Derived.Test.YtknhegdepbmmlaaGreatMt24
import Derived.Test.YtknhegdepbmmlaaGreatMt7
import Derived.Deep.Slices
import Derived.Deep.Strs
import Derived.ChangeSame
set_option maxRecDepth 100000
set_option maxHeartbeats 32000000
/- A tree that comes in; a slice of any elements that comes in. No condition. -/
namespace Go.Proofs.YtknhegdepbmmlaaGreat
open Go.RowKit Go.Joins Go.ChangeShapes Go.WideShapes Go.Deep
section
variable {H : Type} {enc : TypeId × Value → H} {w : World} {held : Bool} {fuel : Nat} {cs : List Value} {x : DataW H × List MemPlace}
/-- A slice whose elements read as data of α. -/
theorem sl_gen {α : Type} [GR α] {t e : TypeId} (ht : Tryz.prog.underlying t = some (.slice e)) (ce : Tryz.prog.cellsOf e = GR.sz α) (h0 : 0 < GR.sz α)
    (he : ∀ (fuel : Nat) (cs : List Value) (x : DataW H × List MemPlace), DataW.trod enc Tryz.prog w 0 (fun _ => true) held fuel e cs = some x → ∃ y : α, GR.rep (fun _ => False) w cs y)
    (h : DataW.trod enc Tryz.prog w 0 (fun _ => true) held fuel t cs = some x) : ∃ (a : Option Addr) (c : Nat) (l : List α), cs = [.slice a l.length c] ∧ Sl (fun _ => False) w a c l := by
 rcases open_slice ht h with ⟨rfl, _⟩ | ⟨a, len, cap, m, n, D, Pl, rfl, _, hl, hm, hmm, rfl, hx⟩
 ·exact ⟨none, 0, [], rfl, Sl.nil _ _ _ (by unfold maxLen; omega)⟩
 ·have hlm : len ≤ m := by rw [hmm]; simpa using hl
  have hex : ∀ i : Fin len, ∃ y : α, ∃ cs', w.cells? 0 (a.add (i.1 * GR.sz α)) (GR.sz α) = some cs' ∧ GR.rep (fun _ => False) w cs' y := by
   intro i
   obtain ⟨cs', h1, h2⟩ := hx i.1 (by have := i.2; omega)
   obtain ⟨y, hy⟩ := he _ _ _ h2
   rw [ce] at h1
   exact ⟨y, cs', h1, hy⟩
  obtain ⟨f, hf⟩ := Classical.axiomOfChoice hex
  refine ⟨some a, cap, List.ofFn f, by simp, by simpa using hl, hm, fun j y hj => ?_⟩
  have hjl : j < len := by
   by_cases e : j < len
   ·exact e
   ·rw [List.getElem?_eq_none (by simpa using e)] at hj; simp at hj
  have hy : f ⟨j, hjl⟩ = y := by
   rw [List.getElem?_ofFn, dif_pos hjl] at hj
   simpa using hj
  obtain ⟨cs0, g1, g2⟩ := hf ⟨0, by omega⟩
  obtain ⟨-, g3, g4⟩ := World.cells?_some g1
  have g5 := g4 0 h0
  rw [show (a.add (0 * GR.sz α)).add 0 = a from by simp [Addr.add]] at g5
  rw [List.getElem?_eq_getElem (by omega)] at g5
  obtain ⟨b, off, rfl, hb⟩ := flat_of_cell g5
  obtain ⟨cs', h1, h2⟩ := hf ⟨j, hjl⟩
  obtain ⟨-, h3, h4⟩ := World.cells?_some h1
  rw [hy] at h2
  refine ⟨b, off, cs', rfl, hb, id, h2, fun i u hi => ?_⟩
  have hin : i < GR.sz α := by have := some_lt hi; omega
  have h5 := h4 i hin
  rw [hi, add_flat, add_flat] at h5
  exact h5
theorem cells_is : Tryz.prog.cellsOf 3 = 1 ∧ Tryz.prog.cellsOf 45 = 1 ∧ Tryz.prog.cellsOf 115 = 2 ∧ Tryz.prog.cellsOf 49 = 1 ∧ Tryz.prog.cellsOf 51 = 3 ∧ Tryz.prog.cellsOf 25 = 1 ∧ Tryz.prog.cellsOf 27 = 1 := ⟨by kernel_rfl, by kernel_rfl, by kernel_rfl, by kernel_rfl, by kernel_rfl, by kernel_rfl, by kernel_rfl⟩
theorem list_of_len2 {α : Type} {l : List α} (h : l.length = 2) : ∃ a b, l = [a, b] := by
 match l, h with
 | [a, b], _ => exact ⟨a, b, rfl⟩
theorem list_of_len3 {α : Type} {l : List α} (h : l.length = 3) : ∃ a b c, l = [a, b, c] := by
 match l, h with
 | [a, b, c], _ => exact ⟨a, b, c, rfl⟩
theorem kd_of (h : DataW.trod enc Tryz.prog w 0 (fun _ => true) held fuel 115 cs = some x) : ∃ y : Kd, GR.rep (fun _ => False) w cs y := by
 obtain ⟨y0, y1, n, -, hl, h0, h1⟩ := trod_struct2 Tryz.underlying115 h
 obtain ⟨k1, k2, k3, k4, k5, k6, k7⟩ := cells_is
 rw [k3] at hl
 obtain ⟨c0, c1, rfl⟩ := list_of_len2 hl
 simp only [k1, List.drop_zero, List.drop_succ_cons, List.take_succ_cons, List.take_zero] at h0 h1
 obtain ⟨x0, e0, -, w0⟩ := DataW.trod_int Tryz.underlying3 h0
 obtain ⟨x1, e1, -, w1⟩ := DataW.trod_int Tryz.underlying3 h1
 simp at e0 e1
 subst e0 e1
 exact ⟨⟨x0, x1⟩, rfl, wf_i64 w0, wf_i64 w1⟩
theorem sl_kds_of (h : DataW.trod enc Tryz.prog w 0 (fun _ => true) held fuel 49 cs = some x) : ∃ (a : Option Addr) (c : Nat) (l : List Kd), cs = [.slice a l.length c] ∧ Sl (fun _ => False) w a c l :=
 sl_gen Tryz.underlying49 cells_is.2.2.1 (by simp [GR.sz]) (fun _ _ _ h => kd_of h) h
theorem nd_of (h : DataW.trod enc Tryz.prog w 0 (fun _ => true) held fuel 51 cs = some x) : ∃ y : Nd, GR.rep (fun _ => False) w cs y := by
 obtain ⟨y0, y1, y2, n, -, hl, h0, h1, h2⟩ := trod_struct3 Tryz.underlying51 h
 obtain ⟨k1, k2, k3, k4, k5, k6, k7⟩ := cells_is
 rw [k5] at hl
 obtain ⟨c0, c1, c2, rfl⟩ := list_of_len3 hl
 simp only [k1, k2, k4, List.drop_zero, List.drop_succ_cons, List.take_succ_cons, List.take_zero] at h0 h1 h2
 obtain ⟨a0, d0, l0, e0, s0⟩ := sl_ints_of h0
 obtain ⟨x1, e1, -, w1⟩ := DataW.trod_int Tryz.underlying3 h1
 obtain ⟨a2, d2, l2, e2, s2⟩ := sl_kds_of h2
 simp at e0 e1 e2
 subst e0 e1 e2
 exact ⟨⟨l0, x1, l2⟩, ⟨a0, d0, a2, d2, rfl, s0, s2⟩, wf_i64 w1⟩
theorem sl_nds_of (h : DataW.trod enc Tryz.prog w 0 (fun _ => true) held fuel 25 cs = some x) : ∃ (a : Option Addr) (c : Nat) (l : List Nd), cs = [.slice a l.length c] ∧ Sl (fun _ => False) w a c l :=
 sl_gen Tryz.underlying25 cells_is.2.2.2.2.1 (by simp [GR.sz]) (fun _ _ _ h => nd_of h) h
theorem array1 {α : Type} {cs : Array α} (h : cs.size = 1) : ∃ c0, cs = #[c0] := by
 obtain ⟨l⟩ := cs
 match l, h with
 | [c0], _ => exact ⟨c0, rfl⟩
/-- A tree that comes in. -/
theorem open_ads {r : Reach} {b0 : Nat} {v : Value} {d : DataW H} {p : List MemPlace} (hv : Value.okWide Tryz.prog w r b0 27 v) (h : DataW.Trod enc Tryz.prog w 0 (fun _ => true) held 27 v d p) :
    ∃ (a : Option Addr) (c : Nat) (T : List Nd), v = .agg #[.slice a T.length c] ∧ Sl (fun _ => False) w a c T := by
 obtain ⟨cs, rfl, hsz⟩ := okWide_struct Tryz.underlying27 hv
 obtain ⟨c0, rfl⟩ := array1 (hsz.trans cells_is.2.2.2.2.2.2)
 obtain ⟨fuel, hf⟩ := h
 obtain ⟨xs, n, -, -, hl, hlen, hg⟩ := DataW.trod_struct Tryz.underlying27 hf
 match xs, hlen with
 | [y0], _ =>
  have h0 : DataW.trod enc Tryz.prog w 0 (fun _ => true) held n 25 [c0] = some y0 := by
   have h := hg 0 _ rfl
   simp [Value.cells, cells_is.2.2.2.2.2.1] at h
   exact h
  obtain ⟨a, c, l, e, s⟩ := sl_nds_of h0
  simp at e
  subst e
  exact ⟨a, c, l, rfl, s⟩
end
end Go.Proofs.YtknhegdepbmmlaaGreat
