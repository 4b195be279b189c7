/- The laws' own example. No condition. -/
import Derived.Test.YtdnmgiabgpilkaaMinimal
import Derived.Test.YtdnmgiabgpilkaaDepth8
import Derived.Test.YtdnmgiabgpilkaaEqs
import Derived.Test.YtdnmgiabgpilkaaSame
import Derived.Test.YtdnmgiabgpilkaaLit
namespace Go.Proofs.Ytdnmgiabgpilkaa
open Go.RowKit

def ex8M : Mach := ⟨1, 0, [[1], [2], [3], [1]], [[0], [0], [1], [0]]⟩
def ex8T : Mach := ⟨1, 0, [[1], [2], [0]], [[0], [0], [1]]⟩

abbrev ex8W (w : World) : World :=
  (((((((((((w.alloc (.cells #[.int .i64 1] 3)).alloc (.cells #[.int .i64 2] 3)).alloc (.cells #[.int .i64 3] 3)).alloc (.cells #[.int .i64 1] 3)).alloc
    (.cells #[.slice (some ⟨w.heap.size, 0, none⟩) 1 1, .slice (some ⟨w.heap.size + 1, 0, none⟩) 1 1, .slice (some ⟨w.heap.size + 1 + 1, 0, none⟩) 1 1, .slice (some ⟨w.heap.size + 1 + 1 + 1, 0, none⟩) 1 1] 27)).alloc
    (.cells #[.int .i64 0] 3)).alloc (.cells #[.int .i64 0] 3)).alloc (.cells #[.int .i64 1] 3)).alloc (.cells #[.int .i64 0] 3)).alloc
    (.cells #[.slice (some ⟨w.heap.size + 1 + 1 + 1 + 1 + 1, 0, none⟩) 1 1, .slice (some ⟨w.heap.size + 1 + 1 + 1 + 1 + 1 + 1, 0, none⟩) 1 1, .slice (some ⟨w.heap.size + 1 + 1 + 1 + 1 + 1 + 1 + 1, 0, none⟩) 1 1, .slice (some ⟨w.heap.size + 1 + 1 + 1 + 1 + 1 + 1 + 1 + 1, 0, none⟩) 1 1] 27)).alloc
    (.cells #[.int .i64 1, .int .i64 0, .slice (some ⟨w.heap.size + 1 + 1 + 1 + 1, 0, none⟩) 4 4, .slice (some ⟨w.heap.size + 1 + 1 + 1 + 1 + 1 + 1 + 1 + 1 + 1, 0, none⟩) 4 4] 24))

abbrev ex8T3 (w : World) : World :=
  ((((((((w.alloc (.cells #[.int .i64 1] 3)).alloc (.cells #[.int .i64 2] 3)).alloc (.cells #[.int .i64 0] 3)).alloc
    (.cells #[.slice (some ⟨w.heap.size, 0, none⟩) 1 1, .slice (some ⟨w.heap.size + 1, 0, none⟩) 1 1, .slice (some ⟨w.heap.size + 1 + 1, 0, none⟩) 1 1] 27)).alloc
    (.cells #[.int .i64 0] 3)).alloc (.cells #[.int .i64 0] 3)).alloc (.cells #[.int .i64 1] 3)).alloc
    (.cells #[.slice (some ⟨w.heap.size + 1 + 1 + 1 + 1, 0, none⟩) 1 1, .slice (some ⟨w.heap.size + 1 + 1 + 1 + 1 + 1, 0, none⟩) 1 1, .slice (some ⟨w.heap.size + 1 + 1 + 1 + 1 + 1 + 1, 0, none⟩) 1 1] 27))

theorem i64_small {x : Int} (h : -100 ≤ x ∧ x ≤ 100) : i64 x := by unfold i64; omega
theorem heap_at {w : World} {o : Obj} {k : Nat} (h : w.heap.size = k) : (w.alloc o).heap[k]? = some o := by subst h; exact heap_alloc_new w o

section
variable {w : World}
theorem ex8_base (w : World) : Ma (fun k => k < w.heap.size) (ex8W w) (some ⟨w.heap.size + 1 + 1 + 1 + 1, 0, none⟩) 4 (some ⟨w.heap.size + 1 + 1 + 1 + 1 + 1 + 1 + 1 + 1 + 1, 0, none⟩) 4 ex8M ∧ Below w.heap.size w (ex8W w) ∧
    (ex8W w).heap.size = w.heap.size + 11 ∧ (ex8W w).heap[w.heap.size + 10]? = some (.cells #[.int .i64 1, .int .i64 0, .slice (some ⟨w.heap.size + 1 + 1 + 1 + 1, 0, none⟩) 4 4, .slice (some ⟨w.heap.size + 1 + 1 + 1 + 1 + 1 + 1 + 1 + 1 + 1, 0, none⟩) 4 4] 24) := by
  have one : ∀ (b : Nat) (x : Int), (ex8W w).heap[b]? = some (.cells #[.int .i64 x] 3) → w.heap.size ≤ b → -100 ≤ x ∧ x ≤ 100 → Sl (fun k => k < w.heap.size) (ex8W w) (some ⟨b, 0, none⟩) 1 [x] := fun b x h hb hx =>
    Sl.lit h rfl (by omega) (fun y hy => by simp at hy; subst hy; exact i64_small hx) rfl (by unfold maxLen; omega)
  refine ⟨⟨i64_small (by decide), i64_small (by decide), ?_, ?_⟩, ?_, by simp, by (repeat (first | (refine heap_at ?_; (simp; done)) | refine heap_old ?_))⟩
  · refine Sl.litr (vs := #[.slice (some ⟨w.heap.size, 0, none⟩) 1 1, .slice (some ⟨w.heap.size + 1, 0, none⟩) 1 1, .slice (some ⟨w.heap.size + 1 + 1, 0, none⟩) 1 1, .slice (some ⟨w.heap.size + 1 + 1 + 1, 0, none⟩) 1 1]) (T := 27) (by (repeat (first | (refine heap_at ?_; (simp; done)) | refine heap_old ?_))) (by omega) rfl (by unfold maxLen; omega) fun j r hj => ?_
    match j, hj with
    | 0, hj => obtain rfl : [1] = r := by simpa [ex8M] using hj
               exact ⟨_, _, rfl, one _ _ (by (repeat (first | (refine heap_at ?_; (simp; done)) | refine heap_old ?_))) (by omega) (by decide)⟩
    | 1, hj => obtain rfl : [2] = r := by simpa [ex8M] using hj
               exact ⟨_, _, rfl, one _ _ (by (repeat (first | (refine heap_at ?_; (simp; done)) | refine heap_old ?_))) (by omega) (by decide)⟩
    | 2, hj => obtain rfl : [3] = r := by simpa [ex8M] using hj
               exact ⟨_, _, rfl, one _ _ (by (repeat (first | (refine heap_at ?_; (simp; done)) | refine heap_old ?_))) (by omega) (by decide)⟩
    | 3, hj => obtain rfl : [1] = r := by simpa [ex8M] using hj
               exact ⟨_, _, rfl, one _ _ (by (repeat (first | (refine heap_at ?_; (simp; done)) | refine heap_old ?_))) (by omega) (by decide)⟩
    | j + 4, hj => simp [ex8M] at hj
  · refine Sl.litr (vs := #[.slice (some ⟨w.heap.size + 1 + 1 + 1 + 1 + 1, 0, none⟩) 1 1, .slice (some ⟨w.heap.size + 1 + 1 + 1 + 1 + 1 + 1, 0, none⟩) 1 1, .slice (some ⟨w.heap.size + 1 + 1 + 1 + 1 + 1 + 1 + 1, 0, none⟩) 1 1, .slice (some ⟨w.heap.size + 1 + 1 + 1 + 1 + 1 + 1 + 1 + 1, 0, none⟩) 1 1]) (T := 27) (by (repeat (first | (refine heap_at ?_; (simp; done)) | refine heap_old ?_))) (by omega) rfl (by unfold maxLen; omega) fun j r hj => ?_
    match j, hj with
    | 0, hj => obtain rfl : [0] = r := by simpa [ex8M] using hj
               exact ⟨_, _, rfl, one _ _ (by (repeat (first | (refine heap_at ?_; (simp; done)) | refine heap_old ?_))) (by omega) (by decide)⟩
    | 1, hj => obtain rfl : [0] = r := by simpa [ex8M] using hj
               exact ⟨_, _, rfl, one _ _ (by (repeat (first | (refine heap_at ?_; (simp; done)) | refine heap_old ?_))) (by omega) (by decide)⟩
    | 2, hj => obtain rfl : [1] = r := by simpa [ex8M] using hj
               exact ⟨_, _, rfl, one _ _ (by (repeat (first | (refine heap_at ?_; (simp; done)) | refine heap_old ?_))) (by omega) (by decide)⟩
    | 3, hj => obtain rfl : [0] = r := by simpa [ex8M] using hj
               exact ⟨_, _, rfl, one _ _ (by (repeat (first | (refine heap_at ?_; (simp; done)) | refine heap_old ?_))) (by omega) (by decide)⟩
    | j + 4, hj => simp [ex8M] at hj
  · unfold ex8W
    repeat' (first | exact Below.refl _ _ | refine Below.alloc ?_ (by simp; omega) _ | refine Below.alloc ?_ (by simp) _)

theorem ex8_want (w : World) : Ma (fun k => k < w.heap.size) (ex8T3 w) (some ⟨w.heap.size + 1 + 1 + 1, 0, none⟩) 3 (some ⟨w.heap.size + 1 + 1 + 1 + 1 + 1 + 1 + 1, 0, none⟩) 3 ex8T ∧ Below w.heap.size w (ex8T3 w) := by
  have one : ∀ (b : Nat) (x : Int), (ex8T3 w).heap[b]? = some (.cells #[.int .i64 x] 3) → w.heap.size ≤ b → -100 ≤ x ∧ x ≤ 100 → Sl (fun k => k < w.heap.size) (ex8T3 w) (some ⟨b, 0, none⟩) 1 [x] := fun b x h hb hx =>
    Sl.lit h rfl (by omega) (fun y hy => by simp at hy; subst hy; exact i64_small hx) rfl (by unfold maxLen; omega)
  refine ⟨⟨i64_small (by decide), i64_small (by decide), ?_, ?_⟩, ?_⟩
  · refine Sl.litr (vs := #[.slice (some ⟨w.heap.size, 0, none⟩) 1 1, .slice (some ⟨w.heap.size + 1, 0, none⟩) 1 1, .slice (some ⟨w.heap.size + 1 + 1, 0, none⟩) 1 1]) (T := 27) (by (repeat (first | (refine heap_at ?_; (simp; done)) | refine heap_old ?_))) (by omega) rfl (by unfold maxLen; omega) fun j r hj => ?_
    match j, hj with
    | 0, hj => obtain rfl : [1] = r := by simpa [ex8T] using hj
               exact ⟨_, _, rfl, one _ _ (by (repeat (first | (refine heap_at ?_; (simp; done)) | refine heap_old ?_))) (by omega) (by decide)⟩
    | 1, hj => obtain rfl : [2] = r := by simpa [ex8T] using hj
               exact ⟨_, _, rfl, one _ _ (by (repeat (first | (refine heap_at ?_; (simp; done)) | refine heap_old ?_))) (by omega) (by decide)⟩
    | 2, hj => obtain rfl : [0] = r := by simpa [ex8T] using hj
               exact ⟨_, _, rfl, one _ _ (by (repeat (first | (refine heap_at ?_; (simp; done)) | refine heap_old ?_))) (by omega) (by decide)⟩
    | j + 3, hj => simp [ex8T] at hj
  · refine Sl.litr (vs := #[.slice (some ⟨w.heap.size + 1 + 1 + 1 + 1, 0, none⟩) 1 1, .slice (some ⟨w.heap.size + 1 + 1 + 1 + 1 + 1, 0, none⟩) 1 1, .slice (some ⟨w.heap.size + 1 + 1 + 1 + 1 + 1 + 1, 0, none⟩) 1 1]) (T := 27) (by (repeat (first | (refine heap_at ?_; (simp; done)) | refine heap_old ?_))) (by omega) rfl (by unfold maxLen; omega) fun j r hj => ?_
    match j, hj with
    | 0, hj => obtain rfl : [0] = r := by simpa [ex8T] using hj
               exact ⟨_, _, rfl, one _ _ (by (repeat (first | (refine heap_at ?_; (simp; done)) | refine heap_old ?_))) (by omega) (by decide)⟩
    | 1, hj => obtain rfl : [0] = r := by simpa [ex8T] using hj
               exact ⟨_, _, rfl, one _ _ (by (repeat (first | (refine heap_at ?_; (simp; done)) | refine heap_old ?_))) (by omega) (by decide)⟩
    | 2, hj => obtain rfl : [1] = r := by simpa [ex8T] using hj
               exact ⟨_, _, rfl, one _ _ (by (repeat (first | (refine heap_at ?_; (simp; done)) | refine heap_old ?_))) (by omega) (by decide)⟩
    | j + 3, hj => simp [ex8T] at hj
  · unfold ex8T3
    repeat' (first | exact Below.refl _ _ | refine Below.alloc ?_ (by simp; omega) _ | refine Below.alloc ?_ (by simp) _)

theorem ex8_err : ex8M.err = 0 := by decide
theorem ex8_errT : ex8T.err = 0 := by decide
theorem ex8_part1 : ex8M.partOf 1 = [0, 0, 1, 0] := by decide
theorem ex8_part : ex8M.partOf 128 = [0, 1, 2, 0] := by decide
theorem ex8_depth : ex8M.DepthOf 2 := by
  unfold Mach.DepthOf
  rw [if_pos ex8_err]
  exact ⟨by decide, fun j hj => match j, hj with | 0, _ => by decide | 1, _ => by decide, .inr (by decide)⟩
theorem ex8_min : ex8M.minOf = ex8T := by decide
theorem ex8_minimal : ex8M.minimal = false := by decide
theorem ex8_minimalT : ex8T.minimal = true := by decide
theorem none_err : (Mach.nothing).err = 2 := by decide
end
end Go.Proofs.Ytdnmgiabgpilkaa
