/- The four cells of a boxed machine, and how they are kept. No condition. -/
import Derived.Test.YtlgdijgfphedpaaBase
namespace Go.Proofs.Ytlgdijgfphedpaa
open Go.RowKit

/-- Block b holds the machine's four cells. -/
abbrev C4 (w : World) (b : Nat) (an : Option Addr) (cn : Nat) (ao : Option Addr) (co : Nat) (m : Mach) : Prop :=
  w.cell? ⟨b, 0, none⟩ = some (.int .i64 m.inputs) ∧ w.cell? ⟨b, 1, none⟩ = some (.int .i64 m.start) ∧ w.cell? ⟨b, 2, none⟩ = some (.slice an m.next.length cn) ∧ w.cell? ⟨b, 3, none⟩ = some (.slice ao m.out.length co)
/-- The object that boxes a machine. -/
abbrev maO (m : Mach) (an : Option Addr) (cn : Nat) (ao : Option Addr) (co : Nat) : Obj := .cells #[.int .i64 m.inputs, .int .i64 m.start, .slice an m.next.length cn, .slice ao m.out.length co] 24

theorem lt_of_cell {w : World} {b o : Nat} {v : Value} (h : w.cell? ⟨b, o, none⟩ = some v) : b < w.heap.size := by
  by_cases e : b < w.heap.size
  · exact e
  · exfalso
    unfold World.cell? at h
    simp only [Array.getElem?_eq_none (show w.heap.size ≤ b by omega)] at h
    cases h
section
variable {B b : Nat} {w w' : World} {an ao : Option Addr} {cn co : Nat} {m : Mach}
theorem c4_new (w : World) : C4 (w.alloc (maO m an cn ao co)) w.heap.size an cn ao co m := by
  refine ⟨?_, ?_, ?_, ?_⟩ <;> simp
theorem C4.below (h : C4 w b an cn ao co m) (hb : Below B w w') (hlt : b < B) : C4 w' b an cn ao co m :=
  ⟨(hb.cell (p := ⟨b, 0, none⟩) hlt).trans h.1, (hb.cell (p := ⟨b, 1, none⟩) hlt).trans h.2.1, (hb.cell (p := ⟨b, 2, none⟩) hlt).trans h.2.2.1, (hb.cell (p := ⟨b, 3, none⟩) hlt).trans h.2.2.2⟩
theorem C4.drew (h : C4 w b an cn ao co m) : C4 w.drew b an cn ao co m := ⟨by simpa using h.1, by simpa using h.2.1, by simpa using h.2.2.1, by simpa using h.2.2.2⟩
end

section
variable {M : Nat → Prop} {w : World} {an ao : Option Addr} {cn co : Nat} {m : Mach}
/-- A valid machine's two lists are not nil. -/
theorem Ma.addr (h : Ma M w an cn ao co m) (ok : m.Ok) : ∃ bn on bo oo, an = some ⟨bn, on, none⟩ ∧ ao = some ⟨bo, oo, none⟩ := by
  obtain ⟨bn, on, _, _, _, bo, oo, _, _, _, h1, h2, _⟩ := h.row ok (s := 0) ok.n0
  exact ⟨bn, on, bo, oo, h1, h2⟩
/-- .. and what they hold at a state and a symbol. -/
theorem Ma.atS {bn on bo oo : Nat} (h : Ma M w (some ⟨bn, on, none⟩) cn (some ⟨bo, oo, none⟩) co m) (ok : m.Ok) {s x : Nat} (hs : s < m.next.length) (hx : x < m.inputs.toNat) :
    ∃ b1 o1 c1 l1 b2 o2 c2 l2 n y, w.cell? ⟨bn, on + s, none⟩ = some (.slice (some ⟨b1, o1, none⟩) l1 c1) ∧ w.cell? ⟨bo, oo + s, none⟩ = some (.slice (some ⟨b2, o2, none⟩) l2 c2) ∧
      w.cell? ⟨b1, o1 + x, none⟩ = some (.int .i64 ((n : Nat) : Int)) ∧ w.cell? ⟨b2, o2 + x, none⟩ = some (.int .i64 y) ∧ n < m.next.length ∧ 0 ≤ y ∧ y ≤ 1048576 ∧ Hid (m.nx s x = n) ∧ Hid (m.ot s x = y) ∧ x < l1 ∧ x < l2 ∧ l1 ≤ 64 ∧ l2 ≤ 64 := by
  obtain ⟨bn', on', a1, r1, c1, bo', oo', a2, r2, c2, h1, h2, h3, h4, h5, h6, h7, h8, -, -, h11⟩ := h.row ok hs
  obtain ⟨b1, o1, n, b2, o2, y, e1, e2, e3, e4, e5, e6, e7, e8, e9, e10, e11⟩ := Ma.entry ok hs h5 h6 h7 h8 h11 hx
  obtain ⟨rfl, rfl⟩ : bn = bn' ∧ on = on' := by simpa using h1
  obtain ⟨rfl, rfl⟩ : bo = bo' ∧ oo = oo' := by simpa using h2
  subst e1
  subst e2
  have i1 := ok.i1
  have l11 := h11.out
  exact ⟨b1, o1, c1, _, b2, o2, c2, _, n, y, h3, h4, e3, e4, e5, e6, e7, e8, e9, e10, e11, by omega, by omega⟩
end
end Go.Proofs.Ytlgdijgfphedpaa
