/- Lists of one to three lists, written out. No condition. -/
import Derived.Test.YtlgdijgfphedpaaHypD
import Derived.Test.YtlgdijgfphedpaaLit
namespace Go.Proofs.Ytlgdijgfphedpaa
open Go.RowKit
section
variable {M M' M'' : Nat → Prop} {w : World} {a a' a'' : Option Addr} {c c' c'' : Nat} {T : TypeId}
theorem sl_new {α : Type} [GR α] {l : List α} (h : Sl M w a c l) (o : Obj) : Sl (fun _ => False) (w.alloc o) a c l := (h.anti (M' := fun _ => False) fun _ _ h => h.elim).alloc o
theorem rows1 {r : List Int} {n : Nat} (h : Sl M w a c r) (hn : n = r.length) : Sl (fun _ => False) (w.alloc (.cells #[.slice a n c] T)) (some ⟨w.heap.size, 0, none⟩) 1 [r] := by
  subst hn
  refine Sl.litr (heap_alloc_new _ _) id rfl (by unfold maxLen; omega) fun j x hj => ?_
  match j, hj with
  | 0, hj => simp at hj; subst hj; exact ⟨a, c, rfl, sl_new h _⟩
theorem rows2 {r s : List Int} {n m : Nat} (h : Sl M w a c r) (h2 : Sl M' w a' c' s) (hn : n = r.length) (hm : m = s.length) :
    Sl (fun _ => False) (w.alloc (.cells #[.slice a n c, .slice a' m c'] T)) (some ⟨w.heap.size, 0, none⟩) 2 [r, s] := by
  subst hn hm
  refine Sl.litr (heap_alloc_new _ _) id rfl (by unfold maxLen; omega) fun j x hj => ?_
  match j, hj with
  | 0, hj => simp at hj; subst hj; exact ⟨a, c, rfl, sl_new h _⟩
  | 1, hj => simp at hj; subst hj; exact ⟨a', c', rfl, sl_new h2 _⟩
theorem rows3 {r s t : List Int} {n m k : Nat} (h : Sl M w a c r) (h2 : Sl M' w a' c' s) (h3 : Sl M'' w a'' c'' t) (hn : n = r.length) (hm : m = s.length) (hk : k = t.length) :
    Sl (fun _ => False) (w.alloc (.cells #[.slice a n c, .slice a' m c', .slice a'' k c''] T)) (some ⟨w.heap.size, 0, none⟩) 3 [r, s, t] := by
  subst hn hm hk
  refine Sl.litr (heap_alloc_new _ _) id rfl (by unfold maxLen; omega) fun j x hj => ?_
  match j, hj with
  | 0, hj => simp at hj; subst hj; exact ⟨a, c, rfl, sl_new h _⟩
  | 1, hj => simp at hj; subst hj; exact ⟨a', c', rfl, sl_new h2 _⟩
  | 2, hj => simp at hj; subst hj; exact ⟨a'', c'', rfl, sl_new h3 _⟩
theorem ints1 {x : Int} (hx : i64 x) : Sl (fun _ => False) (w.alloc (.cells #[.int .i64 x] T)) (some ⟨w.heap.size, 0, none⟩) 1 [x] :=
  Sl.lit (heap_alloc_new _ _) rfl id (fun y hy => by simp at hy; subst hy; exact hx) rfl (by unfold maxLen; omega)
theorem box1 (w : World) (v : Value) (T : TypeId) {n : Nat} (hn : w.heap.size = n) : (w.alloc (.cells #[v] T)).cell? ⟨n, 0, none⟩ = some v := by
  have h := heap_alloc_new w (.cells #[v] T)
  rw [hn] at h
  rw [cell_of_row _ _ _ _ _ _ h]; rfl
end
theorem set3 {w : World} {g : Nat} {x0 x1 x2 y0 y1 y2 : Value} {T : TypeId} (h : w.heap[g]? = some (.cells #[x0, x1, x2] T (0, 0))) :
    (((w.setCell ⟨g, 0, none⟩ y0).setCell ⟨g, 1, none⟩ y1).setCell ⟨g, 2, none⟩ y2).heap[g]? = some (.cells #[y0, y1, y2] T (0, 0)) := by
  rw [heap_setCell_same _ _ _ _ _ _ (heap_setCell_same _ _ _ _ _ _ (heap_setCell_same _ _ _ _ _ _ h))]
  rfl
theorem cells3 {w : World} {g : Nat} {y0 y1 y2 : Value} {T : TypeId} (h : w.heap[g]? = some (.cells #[y0, y1, y2] T (0, 0))) :
    (w.cell? ⟨g, 0, none⟩ = some y0 ∧ w.cell? ⟨g, 1, none⟩ = some y1 ∧ w.cell? ⟨g, 2, none⟩ = some y2) ∧ ∀ o, w.frozen? ⟨g, o, none⟩ = false :=
  ⟨⟨by rw [cell_of_row _ _ _ _ _ _ h]; rfl, by rw [cell_of_row _ _ _ _ _ _ h]; rfl, by rw [cell_of_row _ _ _ _ _ _ h]; rfl⟩, fun o => frozen_of_row _ _ _ _ _ h⟩
theorem flat1 (r : List Int) : [r].flatten = r := by simp
theorem flat2 (r s : List Int) : [r, s].flatten = r ++ s := by simp
theorem flat3 (r s t : List Int) : [r, s, t].flatten = r ++ (s ++ t) := by simp
end Go.Proofs.Ytlgdijgfphedpaa
