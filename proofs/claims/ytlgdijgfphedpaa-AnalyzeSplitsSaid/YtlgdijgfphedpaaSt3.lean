/- Three cells stored one after the other; a split as a result. No condition. -/
import Derived.Test.YtlgdijgfphedpaaAnaS
namespace Go.Proofs.Ytlgdijgfphedpaa
open Go.RowKit
/-- Three cells of one block stored. -/
abbrev st3 (w : World) (g : Nat) (y0 y1 y2 : Value) : World := ((w.setCell ⟨g, 0, none⟩ y0).setCell ⟨g, 1, none⟩ y1).setCell ⟨g, 2, none⟩ y2
section
variable {B g : Nat} {a w : World} {y0 y1 y2 : Value}
theorem bel_st3 (h : Below B a w) (hg : B ≤ g) : Below B a (st3 w g y0 y1 y2) := ((h.setCell (p := ⟨g, 0, none⟩) hg y0).setCell (p := ⟨g, 1, none⟩) hg y1).setCell (p := ⟨g, 2, none⟩) hg y2
theorem Sl.st3 {α : Type} [GR α] {X n : Nat} {ad : Option Addr} {c : Nat} {l : List α} (h : Sl (fun k => k < X) w ad c l) (hg : g < X) (hn : n ≤ X) : Sl (fun k => k < n) (st3 w g y0 y1 y2) ad c l :=
  h.ext (((Ext.setCell w (p := ⟨g, 0, none⟩) hg _).trans (Ext.setCell _ (p := ⟨g, 1, none⟩) hg _)).trans ((Ext.setCell _ (p := ⟨g, 2, none⟩) hg _).trans (Ext.sub_only fun _ _ hk => Nat.lt_of_lt_of_le hk hn)))
theorem size_st3 : (st3 w g y0 y1 y2).heap.size = w.heap.size := by simp [World.setCell]
theorem st3_other {k : Nat} (h : k ≠ g) : (st3 w g y0 y1 y2).heap[k]? = w.heap[k]? := by
  show (((w.setCell ⟨g, 0, none⟩ y0).setCell ⟨g, 1, none⟩ y1).setCell ⟨g, 2, none⟩ y2).heap[k]? = _
  rw [Below.heap_setCell _ _ _ _ h, Below.heap_setCell _ _ _ _ h, Below.heap_setCell _ _ _ _ h]
end
/-- What Find and Linear return: a split, a word, an error. -/
def FiR (w w' : World) (r : Sp × List Int × Int) (e : Ending) : Prop := ∃ (a1 : Option Addr) (c1 : Nat) (l1 : List Int) (a2 : Option Addr) (c2 : Nat) (l2 : List Int) (sy : Int) (a3 : Option Addr) (c3 : Nat) (l3 : List Int) (er : Int),
  e = .returned (.tuple #[.agg #[.slice a1 l1.length c1, .int .i64 sy, .slice a2 l2.length c2], .slice a3 l3.length c3, .int .i64 er]) ∧ Hid (r = (⟨l1, sy, l2⟩, l3, er)) ∧
  Sl (fun k => k < w.heap.size) w' a1 c1 l1 ∧ Sl (fun k => k < w.heap.size) w' a2 c2 l2 ∧ Sl (fun k => k < w.heap.size) w' a3 c3 l3
theorem snil {α : Type} [GR α] (M : Nat → Prop) (w : World) (a : Option Addr) : Sl M w a 0 ([] : List α) := Sl.nil _ _ _ (by unfold maxLen; omega)
end Go.Proofs.Ytlgdijgfphedpaa
