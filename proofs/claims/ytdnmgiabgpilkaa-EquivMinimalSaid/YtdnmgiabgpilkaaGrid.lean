/- A table of truth values, made row by row: make([][]bool, n) and a make([]bool, n) for each row. No condition beyond sizes. -/
import Derived.Test.YtdnmgiabgpilkaaOps
namespace Go.Proofs.Ytdnmgiabgpilkaa
open Go.RowKit

theorem info_bools : (Try.prog.info? 97).map (fun i => (i.zero, i.size, i.bytes)) = some (some (.slice none 0 0), 1, 24) := by kernel_rfl

section
variable {P : Program} {w : World} {ops : Array Oper} {rest : List Oper} {o : Oper} {a : Act} {Q : Exit → Act → World → Prop}

/-- make([]T, n), told to the block. -/
theorem wpList_mk_exact (hg : o.guard = none) (x y : Operand) (t : TypeId) (hop : o.op = .makeSlice t x y) (e : TypeId) (z : Value) (bytes : Nat) (ht : P.underlying t = some (.slice e))
    (hi : (P.info? e).map (fun i => (i.zero, i.size, i.bytes)) = some (some z, 1, bytes)) (hzc : z.cells = #[z])
    (n : Nat) (hx : a.eval x = .int .i64 n) (hy : a.eval y = .int .i64 n) (hn : bytes * n ≤ 281474976710656) (hn2 : n ≤ maxLen)
    (h : wpList P ops Q rest (a.put o.dst (.slice (some ⟨w.heap.size, 0, none⟩) n n)) (w.alloc (.cells (madeCells #[z] n) e))) : wpList P ops Q (o :: rest) a w := by
  refine wpList_plain hg fun K hK => ?_
  obtain ⟨i, hi1, hi2, hi3, hi4⟩ := info_parts hi
  have hn' : (bytes : Int) * (n : Int) ≤ 281474976710656 := by
    have h1 : ((bytes * n : Nat) : Int) ≤ 281474976710656 := by omega
    rwa [Int.natCast_mul] at h1
  have hn3 : (n : Int) ≤ 9223372036854775807 := by
    have h1 := hn2
    unfold maxLen at h1
    omega
  have hr := run_make (P := P) w t e i z ht hi1 hi2 .i64 .i64 n n (by omega) (Int.le_refl _) (by rw [hi4]; exact hn') hn3
  rw [hzc, hi3] at hr
  simp only [Int.toNat_natCast, Nat.mul_one] at hr
  unfold Oper.wp
  simp only [execOp, hop, hx, hy, hr, Sem.run_bind, Result.andThen_ok, Sem.run_pure, Oper.upon]
  exact hK _ _ h
end

/-- The table while its rows are made. -/
structure GridB (w : World) (g na nb k : Nat) : Prop where
  size : w.heap.size = g + 1 + k
  outer : ∃ cur, w.heap[g]? = some (.cells cur 97 (0, 0)) ∧ na ≤ cur.size ∧ ∀ i, i < k → cur[i]? = some (.slice (some ⟨g + 1 + i, 0, none⟩) nb nb)
  row : ∀ i, i < k → w.heap[g + 1 + i]? = some (.cells (madeCells #[.bool false] nb) 4 (0, 0))

/-- The table: a row's block stands behind the list of rows. -/
structure Grid (w : World) (g na nb : Nat) (K : Nat → Nat → Bool) : Prop where
  outer : ∀ i, i < na → w.cell? ⟨g, i, none⟩ = some (.slice (some ⟨g + 1 + i, 0, none⟩) nb nb)
  row : ∀ i, i < na → ∀ j, j < nb → w.cell? ⟨g + 1 + i, j, none⟩ = some (.bool (K i j))
  free : ∀ i, i < na → ∀ j, w.frozen? ⟨g + 1 + i, j, none⟩ = false

section
variable {w w' : World} {g na nb k : Nat} {K : Nat → Nat → Bool}
theorem GridB.init (w : World) (na nb : Nat) : GridB (w.alloc (.cells (madeCells #[.slice none 0 0] na) 97)) w.heap.size na nb 0 :=
  ⟨by simp, ⟨_, heap_alloc_new w _, by rw [size_madeCells]; simp, fun i hi => by omega⟩, fun i hi => by omega⟩
theorem GridB.step (h : GridB w g na nb k) (hk : k < na) : GridB ((w.setCell ⟨g, k, none⟩ (.slice (some ⟨w.heap.size, 0, none⟩) nb nb)).alloc (.cells (madeCells #[.bool false] nb) 4)) g na nb (k + 1) := by
  obtain ⟨cur, h1, h2, h3⟩ := h.outer
  have hs := h.size
  have hz : (w.setCell ⟨g, k, none⟩ (.slice (some ⟨w.heap.size, 0, none⟩) nb nb)).heap.size = w.heap.size := by simp [World.setCell]
  refine ⟨by rw [World.size_alloc, hz]; omega, ⟨_, (Below.heap_alloc _ _ _ (by rw [hz]; omega)).trans (heap_setCell_same _ _ _ _ _ _ h1), by simpa using h2, fun i hi => ?_⟩, fun i hi => ?_⟩
  · by_cases e : i = k
    · subst e
      rw [Array.getElem?_setIfInBounds_self_of_lt (by omega), hs]
    · rw [Array.getElem?_setIfInBounds_ne (by omega)]
      exact h3 i (by omega)
  · by_cases e : i = k
    · subst e
      have := heap_alloc_new (w.setCell ⟨g, i, none⟩ (.slice (some ⟨w.heap.size, 0, none⟩) nb nb)) (.cells (madeCells #[.bool false] nb) 4)
      rw [hz, hs] at this
      rw [← hs] at this ⊢
      exact this
    · rw [Below.heap_alloc _ _ _ (by rw [hz]; omega), Below.heap_setCell _ _ _ _ (by simp; omega)]
      exact h.row i (by omega)
theorem GridB.done (h : GridB w g na nb na) : Grid w g na nb (fun _ _ => false) := by
  obtain ⟨cur, h1, h2, h3⟩ := h.outer
  refine ⟨fun i hi => ?_, fun i hi j hj => ?_, fun i hi j => ?_⟩
  · rw [cell_of_row _ _ _ _ _ _ h1]; exact h3 i hi
  · rw [cell_of_row _ _ _ _ _ _ (h.row i hi), ← Array.getElem?_toList, toList_madeCells_one, List.getElem?_replicate, if_pos hj]
  · exact frozen_of_row _ _ _ _ _ (h.row i hi)
theorem Grid.below {B : Nat} (h : Grid w g na nb K) (hb : Below B w w') (hN : g + 1 + na ≤ B) : Grid w' g na nb K :=
  ⟨fun i hi => (hb.cell (p := ⟨g, i, none⟩) (show g < B by omega)).trans (h.outer i hi), fun i hi j hj => (hb.cell (p := ⟨g + 1 + i, j, none⟩) (show g + 1 + i < B by omega)).trans (h.row i hi j hj),
    fun i hi j => (hb.frozen (p := ⟨g + 1 + i, j, none⟩) (show g + 1 + i < B by omega)).trans (h.free i hi j)⟩
theorem Grid.congr {K' : Nat → Nat → Bool} (h : Grid w g na nb K) (he : ∀ i j, i < na → j < nb → K i j = K' i j) : Grid w g na nb K' :=
  ⟨h.outer, fun i hi j hj => by rw [← he i j hi hj]; exact h.row i hi j hj, h.free⟩
theorem Grid.drewN (h : Grid w g na nb K) (n : Nat) : Grid (w.drewN n) g na nb K := h.below (below_drewN (g + 1 + na) w n) (Nat.le_refl _)
theorem Grid.drew (h : Grid w g na nb K) : Grid w.drew g na nb K := h.below ((Below.refl (g + 1 + na) w).drew) (Nat.le_refl _)
theorem Grid.set (h : Grid w g na nb K) {s t : Nat} (hs : s < na) (ht : t < nb) : Grid (w.setCell ⟨g + 1 + s, t, none⟩ (.bool true)) g na nb (fun i j => if i = s ∧ j = t then true else K i j) := by
  refine ⟨fun i hi => ?_, fun i hi j hj => ?_, fun i hi j => ?_⟩
  · rw [World.cell?_setCell_other _ _ _ _ (by simp <;> omega)]; exact h.outer i hi
  · by_cases e : i = s ∧ j = t
    · obtain ⟨rfl, rfl⟩ := e
      simp only [and_self, if_true]
      exact World.cell?_setCell_same _ _ _ (h.row i hi j hj)
    · rw [World.cell?_setCell_other _ _ _ _ (by simp; omega), if_neg e]; exact h.row i hi j hj
  · rw [World.frozen?_setCell]; exact h.free i hi j
end
end Go.Proofs.Ytdnmgiabgpilkaa
