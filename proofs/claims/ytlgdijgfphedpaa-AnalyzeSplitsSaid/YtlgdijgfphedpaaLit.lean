/- Slices that the program writes out: rows of numbers, rows of rows. No condition. -/
import Derived.Test.YtlgdijgfphedpaaBuild
namespace Go.Proofs.Ytlgdijgfphedpaa
open Go.RowKit
section
variable {M : Nat → Prop} {w : World}

theorem Sl.lit {xs : List Int} {vs : Array Value} {b n : Nat} {T : TypeId} (h : w.heap[b]? = some (.cells vs T (0, 0))) (hv : vs.toList = xs.map (.int .i64)) (hM : ¬ M b) (hx : ∀ x ∈ xs, i64 x) (hn : n = xs.length) (hs : n ≤ maxLen) :
    Sl M w (some ⟨b, 0, none⟩) n xs := by
  refine ⟨by omega, hs, fun j x hj => ⟨b, 0, [.int .i64 x], rfl, ?_, hM, ⟨rfl, hx x (List.mem_of_getElem? hj)⟩, fun i u hi => ?_⟩⟩
  · exact (Array.getElem?_eq_some_iff.1 h).1
  · obtain ⟨rfl, rfl⟩ : i = 0 ∧ u = .int .i64 x := by
      rcases i with _ | i
      · simpa using hi.symm
      · simp at hi
    have e : vs[j]? = some (.int .i64 x) := by rw [← Array.getElem?_toList, hv, List.getElem?_map, hj]; rfl
    rw [cell_of_row _ _ _ _ _ _ h]
    simpa [GR.sz] using e

theorem Sl.litr {rows : List (List Int)} {vs : Array Value} {b n : Nat} {T : TypeId} (h : w.heap[b]? = some (.cells vs T (0, 0))) (hM : ¬ M b) (hn : n = rows.length) (hs : n ≤ maxLen)
    (hx : ∀ (j : Nat) (r : List Int), rows[j]? = some r → ∃ a c, vs[j]? = some (Value.slice a r.length c) ∧ Sl M w a c r) :
    Sl M w (some ⟨b, 0, none⟩) n rows := by
  refine ⟨by omega, hs, fun j x hj => ?_⟩
  obtain ⟨a, c, h1, h2⟩ := hx j x hj
  refine ⟨b, 0, [.slice a x.length c], rfl, ?_, hM, ⟨a, c, rfl, h2⟩, fun i u hi => ?_⟩
  · exact (Array.getElem?_eq_some_iff.1 h).1
  · obtain ⟨rfl, rfl⟩ : i = 0 ∧ u = .slice a x.length c := by
      rcases i with _ | i
      · simpa using hi.symm
      · simp at hi
    rw [cell_of_row _ _ _ _ _ _ h]
    simpa [GR.sz] using h1

theorem heap_old {o o' : Obj} {k : Nat} (h : w.heap[k]? = some o) : (w.alloc o').heap[k]? = some o := by
  rw [Below.heap_alloc _ _ _ (Array.getElem?_eq_some_iff.1 h).1]; exact h
end
end Go.Proofs.Ytlgdijgfphedpaa
