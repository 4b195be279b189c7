/- The machines of chapter 9's example, as the program writes them out. No condition. -/
import Derived.Test.YtdnmgiabgpilkaaEx8
import Derived.Test.YtdnmgiabgpilkaaDist
import Derived.Test.YtdnmgiabgpilkaaIsoP
namespace Go.Proofs.Ytdnmgiabgpilkaa
open Go.RowKit

/-- A machine of two states and one input, written out. -/
def two9 (x1 x2 y1 y2 : Int) : Mach := ⟨1, 0, [[x1], [x2]], [[y1], [y2]]⟩
abbrev two9W (w : World) (x1 x2 y1 y2 : Int) : World :=
  ((((((w.alloc (.cells #[.int .i64 x1] 3)).alloc (.cells #[.int .i64 x2] 3)).alloc (.cells #[.slice (some ⟨w.heap.size, 0, none⟩) 1 1, .slice (some ⟨w.heap.size + 1, 0, none⟩) 1 1] 27)).alloc
    (.cells #[.int .i64 y1] 3)).alloc (.cells #[.int .i64 y2] 3)).alloc (.cells #[.slice (some ⟨w.heap.size + 1 + 1 + 1, 0, none⟩) 1 1, .slice (some ⟨w.heap.size + 1 + 1 + 1 + 1, 0, none⟩) 1 1] 27)).alloc
    (.cells #[.int .i64 1, .int .i64 0, .slice (some ⟨w.heap.size + 1 + 1, 0, none⟩) 2 2, .slice (some ⟨w.heap.size + 1 + 1 + 1 + 1 + 1, 0, none⟩) 2 2] 24)
/-- A machine of three states and one input, written out. -/
def three9 (st x1 x2 x3 y1 y2 y3 : Int) : Mach := ⟨1, st, [[x1], [x2], [x3]], [[y1], [y2], [y3]]⟩
abbrev three9W (w : World) (st x1 x2 x3 y1 y2 y3 : Int) : World :=
  ((((((((w.alloc (.cells #[.int .i64 x1] 3)).alloc (.cells #[.int .i64 x2] 3)).alloc (.cells #[.int .i64 x3] 3)).alloc
    (.cells #[.slice (some ⟨w.heap.size, 0, none⟩) 1 1, .slice (some ⟨w.heap.size + 1, 0, none⟩) 1 1, .slice (some ⟨w.heap.size + 1 + 1, 0, none⟩) 1 1] 27)).alloc
    (.cells #[.int .i64 y1] 3)).alloc (.cells #[.int .i64 y2] 3)).alloc (.cells #[.int .i64 y3] 3)).alloc
    (.cells #[.slice (some ⟨w.heap.size + 1 + 1 + 1 + 1, 0, none⟩) 1 1, .slice (some ⟨w.heap.size + 1 + 1 + 1 + 1 + 1, 0, none⟩) 1 1, .slice (some ⟨w.heap.size + 1 + 1 + 1 + 1 + 1 + 1, 0, none⟩) 1 1] 27)).alloc
    (.cells #[.int .i64 1, .int .i64 st, .slice (some ⟨w.heap.size + 1 + 1 + 1, 0, none⟩) 3 3, .slice (some ⟨w.heap.size + 1 + 1 + 1 + 1 + 1 + 1 + 1, 0, none⟩) 3 3] 24)

section
theorem two9_base (w : World) {x1 x2 y1 y2 : Int} (h1 : -100 ≤ x1 ∧ x1 ≤ 100) (h2 : -100 ≤ x2 ∧ x2 ≤ 100) (h3 : -100 ≤ y1 ∧ y1 ≤ 100) (h4 : -100 ≤ y2 ∧ y2 ≤ 100) :
    Ma (fun k => k < w.heap.size) (two9W w x1 x2 y1 y2) (some ⟨w.heap.size + 1 + 1, 0, none⟩) 2 (some ⟨w.heap.size + 1 + 1 + 1 + 1 + 1, 0, none⟩) 2 (two9 x1 x2 y1 y2) ∧ Below w.heap.size w (two9W w x1 x2 y1 y2) ∧
    (two9W w x1 x2 y1 y2).heap.size = w.heap.size + 1 + 1 + 1 + 1 + 1 + 1 + 1 ∧ (two9W w x1 x2 y1 y2).heap[w.heap.size + 1 + 1 + 1 + 1 + 1 + 1]? = some (.cells #[.int .i64 1, .int .i64 0, .slice (some ⟨w.heap.size + 1 + 1, 0, none⟩) 2 2, .slice (some ⟨w.heap.size + 1 + 1 + 1 + 1 + 1, 0, none⟩) 2 2] 24) := by
  have one : ∀ (b : Nat) (x : Int), (two9W w x1 x2 y1 y2).heap[b]? = some (.cells #[.int .i64 x] 3) → w.heap.size ≤ b → -100 ≤ x ∧ x ≤ 100 → Sl (fun k => k < w.heap.size) (two9W w x1 x2 y1 y2) (some ⟨b, 0, none⟩) 1 [x] := fun b x h hb hx =>
    Sl.lit h rfl (by omega) (fun y hy => by simp at hy; subst hy; exact i64_small hx) rfl (by unfold maxLen; omega)
  refine ⟨⟨i64_small (show -100 ≤ (1 : Int) ∧ (1 : Int) ≤ 100 by decide), i64_small (show -100 ≤ (0 : Int) ∧ (0 : Int) ≤ 100 by decide), ?_, ?_⟩, ?_, by simp, by (repeat (first | (refine heap_at ?_; (simp; done)) | refine heap_old ?_))⟩
  · refine Sl.litr (rows := [[x1], [x2]]) (vs := #[.slice (some ⟨w.heap.size, 0, none⟩) 1 1, .slice (some ⟨w.heap.size + 1, 0, none⟩) 1 1]) (T := 27) (by (repeat (first | (refine heap_at ?_; (simp; done)) | refine heap_old ?_))) (by omega) rfl (by unfold maxLen; omega) fun j r hj => ?_
    match j, hj with
    | 0, hj => obtain rfl : [x1] = r := by simpa using hj
               exact ⟨_, _, rfl, one _ _ (by (repeat (first | (refine heap_at ?_; (simp; done)) | refine heap_old ?_))) (by omega) h1⟩
    | 1, hj => obtain rfl : [x2] = r := by simpa using hj
               exact ⟨_, _, rfl, one _ _ (by (repeat (first | (refine heap_at ?_; (simp; done)) | refine heap_old ?_))) (by omega) h2⟩
    | j + 2, hj => simp at hj
  · refine Sl.litr (rows := [[y1], [y2]]) (vs := #[.slice (some ⟨w.heap.size + 1 + 1 + 1, 0, none⟩) 1 1, .slice (some ⟨w.heap.size + 1 + 1 + 1 + 1, 0, none⟩) 1 1]) (T := 27) (by (repeat (first | (refine heap_at ?_; (simp; done)) | refine heap_old ?_))) (by omega) rfl (by unfold maxLen; omega) fun j r hj => ?_
    match j, hj with
    | 0, hj => obtain rfl : [y1] = r := by simpa using hj
               exact ⟨_, _, rfl, one _ _ (by (repeat (first | (refine heap_at ?_; (simp; done)) | refine heap_old ?_))) (by omega) h3⟩
    | 1, hj => obtain rfl : [y2] = r := by simpa using hj
               exact ⟨_, _, rfl, one _ _ (by (repeat (first | (refine heap_at ?_; (simp; done)) | refine heap_old ?_))) (by omega) h4⟩
    | j + 2, hj => simp at hj
  · unfold two9W
    repeat' (first | exact Below.refl _ _ | refine Below.alloc ?_ (by simp; omega) _ | refine Below.alloc ?_ (by simp) _)

theorem three9_base (w : World) {st x1 x2 x3 y1 y2 y3 : Int} (h0 : -100 ≤ st ∧ st ≤ 100) (h1 : -100 ≤ x1 ∧ x1 ≤ 100) (h2 : -100 ≤ x2 ∧ x2 ≤ 100) (h3 : -100 ≤ x3 ∧ x3 ≤ 100) (h4 : -100 ≤ y1 ∧ y1 ≤ 100) (h5 : -100 ≤ y2 ∧ y2 ≤ 100) (h6 : -100 ≤ y3 ∧ y3 ≤ 100) :
    Ma (fun k => k < w.heap.size) (three9W w st x1 x2 x3 y1 y2 y3) (some ⟨w.heap.size + 1 + 1 + 1, 0, none⟩) 3 (some ⟨w.heap.size + 1 + 1 + 1 + 1 + 1 + 1 + 1, 0, none⟩) 3 (three9 st x1 x2 x3 y1 y2 y3) ∧ Below w.heap.size w (three9W w st x1 x2 x3 y1 y2 y3) ∧
    (three9W w st x1 x2 x3 y1 y2 y3).heap.size = w.heap.size + 1 + 1 + 1 + 1 + 1 + 1 + 1 + 1 + 1 ∧ (three9W w st x1 x2 x3 y1 y2 y3).heap[w.heap.size + 1 + 1 + 1 + 1 + 1 + 1 + 1 + 1]? = some (.cells #[.int .i64 1, .int .i64 st, .slice (some ⟨w.heap.size + 1 + 1 + 1, 0, none⟩) 3 3, .slice (some ⟨w.heap.size + 1 + 1 + 1 + 1 + 1 + 1 + 1, 0, none⟩) 3 3] 24) := by
  have one : ∀ (b : Nat) (x : Int), (three9W w st x1 x2 x3 y1 y2 y3).heap[b]? = some (.cells #[.int .i64 x] 3) → w.heap.size ≤ b → -100 ≤ x ∧ x ≤ 100 → Sl (fun k => k < w.heap.size) (three9W w st x1 x2 x3 y1 y2 y3) (some ⟨b, 0, none⟩) 1 [x] := fun b x h hb hx =>
    Sl.lit h rfl (by omega) (fun y hy => by simp at hy; subst hy; exact i64_small hx) rfl (by unfold maxLen; omega)
  refine ⟨⟨i64_small (show -100 ≤ (1 : Int) ∧ (1 : Int) ≤ 100 by decide), i64_small h0, ?_, ?_⟩, ?_, by simp, by (repeat (first | (refine heap_at ?_; (simp; done)) | refine heap_old ?_))⟩
  · refine Sl.litr (rows := [[x1], [x2], [x3]]) (vs := #[.slice (some ⟨w.heap.size, 0, none⟩) 1 1, .slice (some ⟨w.heap.size + 1, 0, none⟩) 1 1, .slice (some ⟨w.heap.size + 1 + 1, 0, none⟩) 1 1]) (T := 27) (by (repeat (first | (refine heap_at ?_; (simp; done)) | refine heap_old ?_))) (by omega) rfl (by unfold maxLen; omega) fun j r hj => ?_
    match j, hj with
    | 0, hj => obtain rfl : [x1] = r := by simpa using hj
               exact ⟨_, _, rfl, one _ _ (by (repeat (first | (refine heap_at ?_; (simp; done)) | refine heap_old ?_))) (by omega) h1⟩
    | 1, hj => obtain rfl : [x2] = r := by simpa using hj
               exact ⟨_, _, rfl, one _ _ (by (repeat (first | (refine heap_at ?_; (simp; done)) | refine heap_old ?_))) (by omega) h2⟩
    | 2, hj => obtain rfl : [x3] = r := by simpa using hj
               exact ⟨_, _, rfl, one _ _ (by (repeat (first | (refine heap_at ?_; (simp; done)) | refine heap_old ?_))) (by omega) h3⟩
    | j + 3, hj => simp at hj
  · refine Sl.litr (rows := [[y1], [y2], [y3]]) (vs := #[.slice (some ⟨w.heap.size + 1 + 1 + 1 + 1, 0, none⟩) 1 1, .slice (some ⟨w.heap.size + 1 + 1 + 1 + 1 + 1, 0, none⟩) 1 1, .slice (some ⟨w.heap.size + 1 + 1 + 1 + 1 + 1 + 1, 0, none⟩) 1 1]) (T := 27) (by (repeat (first | (refine heap_at ?_; (simp; done)) | refine heap_old ?_))) (by omega) rfl (by unfold maxLen; omega) fun j r hj => ?_
    match j, hj with
    | 0, hj => obtain rfl : [y1] = r := by simpa using hj
               exact ⟨_, _, rfl, one _ _ (by (repeat (first | (refine heap_at ?_; (simp; done)) | refine heap_old ?_))) (by omega) h4⟩
    | 1, hj => obtain rfl : [y2] = r := by simpa using hj
               exact ⟨_, _, rfl, one _ _ (by (repeat (first | (refine heap_at ?_; (simp; done)) | refine heap_old ?_))) (by omega) h5⟩
    | 2, hj => obtain rfl : [y3] = r := by simpa using hj
               exact ⟨_, _, rfl, one _ _ (by (repeat (first | (refine heap_at ?_; (simp; done)) | refine heap_old ?_))) (by omega) h6⟩
    | j + 3, hj => simp at hj
  · unfold three9W
    repeat' (first | exact Below.refl _ _ | refine Below.alloc ?_ (by simp; omega) _ | refine Below.alloc ?_ (by simp) _)

def ex9A : Mach := two9 1 0 0 0
def ex9B : Mach := three9 0 1 2 0 0 0 1
def ex9C : Mach := three9 1 1 2 0 1 0 0
theorem ex9_ab : chk ex9A ex9B = 0 := by decide
theorem ex9_bc : chk ex9B ex9C = 0 := by decide
theorem ex9_an : chk ex9A Mach.nothing = 2 := by decide
theorem ex9_dist : distW ex9A ex9B = some [0, 0, 0] := by decide
theorem ex9_same : distW ex9B ex9C = none := by decide
theorem ex9_sterr : stErr ex9B 0 1 = 0 := by decide
theorem ex9_st : stW ex9B 0 1 = some [0, 0] := by decide
theorem ex9_up2 : uptoB ex9A ex9B 2 = true := by decide
theorem ex9_up3 : uptoB ex9A ex9B 3 = false := by decide
theorem ex9_iso : isoW ex9B ex9C = some [1, 2, 0] := by decide
end
end Go.Proofs.Ytdnmgiabgpilkaa
