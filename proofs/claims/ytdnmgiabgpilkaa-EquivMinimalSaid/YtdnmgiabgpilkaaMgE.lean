/- Several texts, one behind the other. Conditions: as each of them says. -/
import Derived.Test.YtdnmgiabgpilkaaMgD
import Derived.Test.YtdnmgiabgpilkaaDist
import Derived.Test.YtdnmgiabgpilkaaIsoP
import Derived.Test.YtdnmgiabgpilkaaReach
import Derived.Test.YtdnmgiabgpilkaaValid6
import Derived.Test.YtdnmgiabgpilkaaPush
import Derived.Test.YtdnmgiabgpilkaaC4
import Derived.Test.YtdnmgiabgpilkaaOrdT
import Derived.Deep.Cut
import Derived.Test.YtdnmgiabgpilkaaUni
import Derived.Test.YtdnmgiabgpilkaaIsoQ
import Derived.Test.YtdnmgiabgpilkaaQuiet
import Derived.IntWalk
/- The machines of chapter 9's example, as the program writes them out. No condition. -/
namespace Go.Proofs.Ytdnmgiabgpilkaa
open Go.RowKit

/-- A machine of two states and one input, written out. -/
def two9 (x1 x2 y1 y2 : Int) : Mach := ⟨1, 0, [[x1], [x2]], [[y1], [y2]]⟩
abbrev two9W (w : World) (x1 x2 y1 y2 : Int) : World :=
  ((((((w.alloc (.cells #[.int .i64 x1] 3)).alloc (.cells #[.int .i64 x2] 3)).alloc (.cells #[.slice (some ⟨w.heap.size, 0, none⟩) 1 1, .slice (some ⟨w.heap.size + 1, 0, none⟩) 1 1] 27)).alloc
    (.cells #[.int .i64 y1] 3)).alloc (.cells #[.int .i64 y2] 3)).alloc (.cells #[.slice (some ⟨w.heap.size + 1 + 1 + 1, 0, none⟩) 1 1, .slice (some ⟨w.heap.size + 1 + 1 + 1 + 1, 0, none⟩) 1 1] 27)).alloc
    (.cells #[.int .i64 1, .int .i64 0, .slice (some ⟨w.heap.size + 1 + 1, 0, none⟩) 2 2, .slice (some ⟨w.heap.size + 1 + 1 + 1 + 1 + 1, 0, none⟩) 2 2] 24)
/-- A machine of three states and one input, written out. -/
def three9 (st x1 x2 x3 y1 y2 y3 : Int) : Mach := ⟨1, st, [[x1], [x2], [x3]], [[y1], [y2], [y3]]⟩
abbrev three9W (w : World) (st x1 x2 x3 y1 y2 y3 : Int) : World :=
  ((((((((w.alloc (.cells #[.int .i64 x1] 3)).alloc (.cells #[.int .i64 x2] 3)).alloc (.cells #[.int .i64 x3] 3)).alloc
    (.cells #[.slice (some ⟨w.heap.size, 0, none⟩) 1 1, .slice (some ⟨w.heap.size + 1, 0, none⟩) 1 1, .slice (some ⟨w.heap.size + 1 + 1, 0, none⟩) 1 1] 27)).alloc
    (.cells #[.int .i64 y1] 3)).alloc (.cells #[.int .i64 y2] 3)).alloc (.cells #[.int .i64 y3] 3)).alloc
    (.cells #[.slice (some ⟨w.heap.size + 1 + 1 + 1 + 1, 0, none⟩) 1 1, .slice (some ⟨w.heap.size + 1 + 1 + 1 + 1 + 1, 0, none⟩) 1 1, .slice (some ⟨w.heap.size + 1 + 1 + 1 + 1 + 1 + 1, 0, none⟩) 1 1] 27)).alloc
    (.cells #[.int .i64 1, .int .i64 st, .slice (some ⟨w.heap.size + 1 + 1 + 1, 0, none⟩) 3 3, .slice (some ⟨w.heap.size + 1 + 1 + 1 + 1 + 1 + 1 + 1, 0, none⟩) 3 3] 24)

section
theorem two9_base (w : World) {x1 x2 y1 y2 : Int} (h1 : -100 ≤ x1 ∧ x1 ≤ 100) (h2 : -100 ≤ x2 ∧ x2 ≤ 100) (h3 : -100 ≤ y1 ∧ y1 ≤ 100) (h4 : -100 ≤ y2 ∧ y2 ≤ 100) :
    Ma (fun k => k < w.heap.size) (two9W w x1 x2 y1 y2) (some ⟨w.heap.size + 1 + 1, 0, none⟩) 2 (some ⟨w.heap.size + 1 + 1 + 1 + 1 + 1, 0, none⟩) 2 (two9 x1 x2 y1 y2) ∧ Below w.heap.size w (two9W w x1 x2 y1 y2) ∧
    (two9W w x1 x2 y1 y2).heap.size = w.heap.size + 1 + 1 + 1 + 1 + 1 + 1 + 1 ∧ (two9W w x1 x2 y1 y2).heap[w.heap.size + 1 + 1 + 1 + 1 + 1 + 1]? = some (.cells #[.int .i64 1, .int .i64 0, .slice (some ⟨w.heap.size + 1 + 1, 0, none⟩) 2 2, .slice (some ⟨w.heap.size + 1 + 1 + 1 + 1 + 1, 0, none⟩) 2 2] 24) := by
  have one : ∀ (b : Nat) (x : Int), (two9W w x1 x2 y1 y2).heap[b]? = some (.cells #[.int .i64 x] 3) → w.heap.size ≤ b → -100 ≤ x ∧ x ≤ 100 → Sl (fun k => k < w.heap.size) (two9W w x1 x2 y1 y2) (some ⟨b, 0, none⟩) 1 [x] := fun b x h hb hx =>
    Sl.lit h rfl (by omega) (fun y hy => by simp at hy; subst hy; exact i64_small hx) rfl (by unfold maxLen; omega)
  refine ⟨⟨i64_small (show -100 ≤ (1 : Int) ∧ (1 : Int) ≤ 100 by decide), i64_small (show -100 ≤ (0 : Int) ∧ (0 : Int) ≤ 100 by decide), ?_, ?_⟩, ?_, by simp, by (repeat (first | (refine heap_at ?_; (simp; done)) | refine heap_old ?_))⟩
  · refine Sl.litr (rows := [[x1], [x2]]) (vs := #[.slice (some ⟨w.heap.size, 0, none⟩) 1 1, .slice (some ⟨w.heap.size + 1, 0, none⟩) 1 1]) (T := 27) (by (repeat (first | (refine heap_at ?_; (simp; done)) | refine heap_old ?_))) (by omega) rfl (by unfold maxLen; omega) fun j r hj => ?_
    match j, hj with
    | 0, hj => obtain rfl : [x1] = r := by simpa using hj
               exact ⟨_, _, rfl, one _ _ (by (repeat (first | (refine heap_at ?_; (simp; done)) | refine heap_old ?_))) (by omega) h1⟩
    | 1, hj => obtain rfl : [x2] = r := by simpa using hj
               exact ⟨_, _, rfl, one _ _ (by (repeat (first | (refine heap_at ?_; (simp; done)) | refine heap_old ?_))) (by omega) h2⟩
    | j + 2, hj => simp at hj
  · refine Sl.litr (rows := [[y1], [y2]]) (vs := #[.slice (some ⟨w.heap.size + 1 + 1 + 1, 0, none⟩) 1 1, .slice (some ⟨w.heap.size + 1 + 1 + 1 + 1, 0, none⟩) 1 1]) (T := 27) (by (repeat (first | (refine heap_at ?_; (simp; done)) | refine heap_old ?_))) (by omega) rfl (by unfold maxLen; omega) fun j r hj => ?_
    match j, hj with
    | 0, hj => obtain rfl : [y1] = r := by simpa using hj
               exact ⟨_, _, rfl, one _ _ (by (repeat (first | (refine heap_at ?_; (simp; done)) | refine heap_old ?_))) (by omega) h3⟩
    | 1, hj => obtain rfl : [y2] = r := by simpa using hj
               exact ⟨_, _, rfl, one _ _ (by (repeat (first | (refine heap_at ?_; (simp; done)) | refine heap_old ?_))) (by omega) h4⟩
    | j + 2, hj => simp at hj
  · unfold two9W
    repeat' (first | exact Below.refl _ _ | refine Below.alloc ?_ (by simp; omega) _ | refine Below.alloc ?_ (by simp) _)

theorem three9_base (w : World) {st x1 x2 x3 y1 y2 y3 : Int} (h0 : -100 ≤ st ∧ st ≤ 100) (h1 : -100 ≤ x1 ∧ x1 ≤ 100) (h2 : -100 ≤ x2 ∧ x2 ≤ 100) (h3 : -100 ≤ x3 ∧ x3 ≤ 100) (h4 : -100 ≤ y1 ∧ y1 ≤ 100) (h5 : -100 ≤ y2 ∧ y2 ≤ 100) (h6 : -100 ≤ y3 ∧ y3 ≤ 100) :
    Ma (fun k => k < w.heap.size) (three9W w st x1 x2 x3 y1 y2 y3) (some ⟨w.heap.size + 1 + 1 + 1, 0, none⟩) 3 (some ⟨w.heap.size + 1 + 1 + 1 + 1 + 1 + 1 + 1, 0, none⟩) 3 (three9 st x1 x2 x3 y1 y2 y3) ∧ Below w.heap.size w (three9W w st x1 x2 x3 y1 y2 y3) ∧
    (three9W w st x1 x2 x3 y1 y2 y3).heap.size = w.heap.size + 1 + 1 + 1 + 1 + 1 + 1 + 1 + 1 + 1 ∧ (three9W w st x1 x2 x3 y1 y2 y3).heap[w.heap.size + 1 + 1 + 1 + 1 + 1 + 1 + 1 + 1]? = some (.cells #[.int .i64 1, .int .i64 st, .slice (some ⟨w.heap.size + 1 + 1 + 1, 0, none⟩) 3 3, .slice (some ⟨w.heap.size + 1 + 1 + 1 + 1 + 1 + 1 + 1, 0, none⟩) 3 3] 24) := by
  have one : ∀ (b : Nat) (x : Int), (three9W w st x1 x2 x3 y1 y2 y3).heap[b]? = some (.cells #[.int .i64 x] 3) → w.heap.size ≤ b → -100 ≤ x ∧ x ≤ 100 → Sl (fun k => k < w.heap.size) (three9W w st x1 x2 x3 y1 y2 y3) (some ⟨b, 0, none⟩) 1 [x] := fun b x h hb hx =>
    Sl.lit h rfl (by omega) (fun y hy => by simp at hy; subst hy; exact i64_small hx) rfl (by unfold maxLen; omega)
  refine ⟨⟨i64_small (show -100 ≤ (1 : Int) ∧ (1 : Int) ≤ 100 by decide), i64_small h0, ?_, ?_⟩, ?_, by simp, by (repeat (first | (refine heap_at ?_; (simp; done)) | refine heap_old ?_))⟩
  · refine Sl.litr (rows := [[x1], [x2], [x3]]) (vs := #[.slice (some ⟨w.heap.size, 0, none⟩) 1 1, .slice (some ⟨w.heap.size + 1, 0, none⟩) 1 1, .slice (some ⟨w.heap.size + 1 + 1, 0, none⟩) 1 1]) (T := 27) (by (repeat (first | (refine heap_at ?_; (simp; done)) | refine heap_old ?_))) (by omega) rfl (by unfold maxLen; omega) fun j r hj => ?_
    match j, hj with
    | 0, hj => obtain rfl : [x1] = r := by simpa using hj
               exact ⟨_, _, rfl, one _ _ (by (repeat (first | (refine heap_at ?_; (simp; done)) | refine heap_old ?_))) (by omega) h1⟩
    | 1, hj => obtain rfl : [x2] = r := by simpa using hj
               exact ⟨_, _, rfl, one _ _ (by (repeat (first | (refine heap_at ?_; (simp; done)) | refine heap_old ?_))) (by omega) h2⟩
    | 2, hj => obtain rfl : [x3] = r := by simpa using hj
               exact ⟨_, _, rfl, one _ _ (by (repeat (first | (refine heap_at ?_; (simp; done)) | refine heap_old ?_))) (by omega) h3⟩
    | j + 3, hj => simp at hj
  · refine Sl.litr (rows := [[y1], [y2], [y3]]) (vs := #[.slice (some ⟨w.heap.size + 1 + 1 + 1 + 1, 0, none⟩) 1 1, .slice (some ⟨w.heap.size + 1 + 1 + 1 + 1 + 1, 0, none⟩) 1 1, .slice (some ⟨w.heap.size + 1 + 1 + 1 + 1 + 1 + 1, 0, none⟩) 1 1]) (T := 27) (by (repeat (first | (refine heap_at ?_; (simp; done)) | refine heap_old ?_))) (by omega) rfl (by unfold maxLen; omega) fun j r hj => ?_
    match j, hj with
    | 0, hj => obtain rfl : [y1] = r := by simpa using hj
               exact ⟨_, _, rfl, one _ _ (by (repeat (first | (refine heap_at ?_; (simp; done)) | refine heap_old ?_))) (by omega) h4⟩
    | 1, hj => obtain rfl : [y2] = r := by simpa using hj
               exact ⟨_, _, rfl, one _ _ (by (repeat (first | (refine heap_at ?_; (simp; done)) | refine heap_old ?_))) (by omega) h5⟩
    | 2, hj => obtain rfl : [y3] = r := by simpa using hj
               exact ⟨_, _, rfl, one _ _ (by (repeat (first | (refine heap_at ?_; (simp; done)) | refine heap_old ?_))) (by omega) h6⟩
    | j + 3, hj => simp at hj
  · unfold three9W
    repeat' (first | exact Below.refl _ _ | refine Below.alloc ?_ (by simp; omega) _ | refine Below.alloc ?_ (by simp) _)

def ex9A : Mach := two9 1 0 0 0
def ex9B : Mach := three9 0 1 2 0 0 0 1
def ex9C : Mach := three9 1 1 2 0 1 0 0
theorem ex9_ab : chk ex9A ex9B = 0 := by decide
theorem ex9_bc : chk ex9B ex9C = 0 := by decide
theorem ex9_an : chk ex9A Mach.nothing = 2 := by decide
theorem ex9_dist : distW ex9A ex9B = some [0, 0, 0] := by decide
theorem ex9_same : distW ex9B ex9C = none := by decide
theorem ex9_sterr : stErr ex9B 0 1 = 0 := by decide
theorem ex9_st : stW ex9B 0 1 = some [0, 0] := by decide
theorem ex9_up2 : uptoB ex9A ex9B 2 = true := by decide
theorem ex9_up3 : uptoB ex9A ex9B 3 = false := by decide
theorem ex9_iso : isoW ex9B ex9C = some [1, 2, 0] := by decide
end
end Go.Proofs.Ytdnmgiabgpilkaa
/- The reference's has and Reach. No condition beyond that the fields read as lists of lists. -/
namespace Go.Proofs.Ytdnmgiabgpilkaa
open Go.RowKit
section
variable {M : Nat → Prop} {w : World} {an ao : Option Addr} {cn co : Nat} {m : Mach}

theorem has_yes {a : Option Addr} {c : Nat} {l : List Int} (h : Sl M w a c l) (x : Int) (hx : x ∈ l) :
    Calls Try.prog 59 #[.slice a l.length c, .int .i64 x] w fun e w' => e = .returned (.bool true) ∧ w' = w := by
  have hl := h.le
  have HX := Lib.hid hx
  clear hx
  go_enter Try.func59, Try.ntmps59
  go_wp2
  go_loop [5] (fun i => ∃ k : Nat, k ≤ l.length ∧ i = .int .i64 k ∧ Hid (¬ x ∈ l.take k)) (fun i => l.length - (intOf i).toNat)
  case atStart => exact ⟨0, by omega, rfl, by unfold Hid; simp⟩
  case round =>
    obtain ⟨k, hk, rfl, hn⟩ := hrel
    have hlt : k < l.length := by
      by_cases e : k < l.length
      · exact e
      · have := hn.out; rw [List.take_of_length_le (by omega)] at this; exact absurd HX.out this
    obtain ⟨b, off, y, rfl, hc, hy, -⟩ := h.at_int hlt
    by_cases hxy : y = x
    · have hb : (y == x) = true := by simp [hxy]
      clear hxy
      go_wp2
      go_ret
      exact ⟨rfl, rfl⟩
    · have hb : (y == x) = false := by simp [hxy]
      have hn2 : Hid (¬ x ∈ l.take (k + 1)) := by
        unfold Hid; rw [List.take_add_one, hy.out]; simp only [Option.toList_some, List.mem_append, List.mem_singleton]
        rintro (h1 | h1)
        · exact hn.out h1
        · exact hxy h1.symm
      clear hxy
      go_wp2
      go_round
      case rel => exact ⟨k + 1, by omega, by go_num, hn2⟩
      case measure => simp [intOf]; omega

theorem has_no {a : Option Addr} {c : Nat} {l : List Int} (h : Sl M w a c l) (x : Int) (hx : ¬ x ∈ l) :
    Calls Try.prog 59 #[.slice a l.length c, .int .i64 x] w fun e w' => e = .returned (.bool false) ∧ w' = w := by
  have hl := h.le
  have HX := Lib.hid hx
  clear hx
  go_enter Try.func59, Try.ntmps59
  go_wp2
  go_loop [5] (fun i => ∃ k : Nat, k ≤ l.length ∧ i = .int .i64 k) (fun i => l.length - (intOf i).toNat)
  case atStart => exact ⟨0, by omega, rfl⟩
  case round =>
    obtain ⟨k, hk, rfl⟩ := hrel
    by_cases hlt : k < l.length
    · obtain ⟨b, off, y, rfl, hc, hy, -⟩ := h.at_int hlt
      have hb : (y == x) = false := by
        by_cases hxy : y = x
        · exact absurd (hxy ▸ List.mem_of_getElem? hy.out) HX.out
        · simp [hxy]
      go_wp2
      go_round
      case rel => exact ⟨k + 1, by omega, by go_num⟩
      case measure => simp [intOf]; omega
    · go_wp2
      go_ret
      exact ⟨rfl, rfl⟩

set_option maxRecDepth 100000 in
set_option maxHeartbeats 4000000 in
theorem reachR_any (hm : Ma M w an cn ao co m) :
    Calls Try.prog 42 #[maV m an cn ao co] w fun e w' =>
      ∃ a c l, e = .returned (.slice a l.length c) ∧ Hid (l = m.reachOf) ∧ Sl (fun k => k < w.heap.size) w' a c l ∧ Below w.heap.size w w' := by
  have HM := Lib.hid hm
  have HV := Lib.hid (valid6_any (hm.ext (Ext.alloc M w (maO m an cn ao co))))
  have h0 : Below w.heap.size w (w.alloc (maO m an cn ao co)) := (Below.refl _ _).alloc (Nat.le_refl _) _
  have hC : C4 (w.alloc (maO m an cn ao co)) w.heap.size an cn ao co m := c4_new w
  have hsi := hm.start
  clear hm
  by_cases he : m.err = 0
  · have OK := Lib.hid (m.ok_of_err he)
    have he' : (m.err != 0) = false := by simp [he]
    have n1 := OK.out.n1
    have i0 := OK.out.i0
    have i1 := OK.out.i1
    have HE := Lib.hid he
    obtain ⟨bn, on, bo, oo, rfl, rfl⟩ := HM.out.addr OK.out
    clear he
    go_enter Try.func42, Try.ntmps42
    go_wp2_with fail
    refine (HV.out).mono ?_
    rintro e w1 ⟨rfl, hb1⟩
    have hz1 : w.heap.size + 1 ≤ w1.heap.size := by have := hb1.size; simpa using this
    have hB1 : Below (w.heap.size + 1) (w.alloc (maO m (some ⟨bn, on, none⟩) cn (some ⟨bo, oo, none⟩) co)) w1 := hb1.mono (by simp)
    obtain ⟨j0, j1, j2, j3⟩ := hC.below hB1 (by omega)
    clear hb1 HV
    go_wp2
    have hO0 : Ow w1.heap.size (fun _ => True) (w1.alloc (.cells #[.int .i64 m.start] 3)) 3 (.slice (some ⟨w1.heap.size, 0, none⟩) 1 1) [m.start] := Ow.one hsi (Nat.le_refl _)
    have hB0 := hB1.alloc hz1 (.cells #[.int .i64 m.start] 3)
    clear j0 j1 j2 j3
    go_loopw [3, 4] (fun v i wr => ∃ (k : Nat) (a' : Option Addr) (c' : Nat) (l : List Int), k ≤ m.next.length ∧ i = .int .i64 k ∧ v = .slice a' l.length c' ∧ Hid (l = m.bfs k) ∧ Ow w1.heap.size (fun _ => True) wr 3 (.slice a' l.length c') l ∧
      Below (w.heap.size + 1) (w.alloc (maO m (some ⟨bn, on, none⟩) cn (some ⟨bo, oo, none⟩) co)) wr) (fun _ i _ => m.next.length - (intOf i).toNat)
    case atStart => exact ⟨0, _, _, [m.start], by omega, rfl, rfl, rfl, hO0, hB0⟩
    case round =>
      clear hO0 hB0
      obtain ⟨k, a', c', l, hk, rfl, rfl, hl, hO, hB⟩ := hrel
      obtain ⟨w2, rfl⟩ : ∃ w2 : World, w2 = wr := ⟨_, rfl⟩
      have hll : l.length ≤ m.next.length := by rw [hl.out]; exact Mach.bfs_le OK.out k
      by_cases hlt : k < l.length
      · obtain ⟨x0, hx0⟩ : ∃ x, l[k]? = some x := ⟨_, List.getElem?_eq_getElem hlt⟩
        have HX := Lib.hid hx0
        have hxr := (Mach.bfs_props OK.out k).2.1 x0 (by rw [← hl.out]; exact List.mem_of_getElem? hx0)
        clear hx0
        obtain ⟨x, rfl⟩ := Int.eq_ofNat_of_zero_le hxr.1
        have hxn : x < m.next.length := by omega
        obtain ⟨r1, hr1⟩ : ∃ r, m.next[x]? = some r := ⟨_, List.getElem?_eq_getElem hxn⟩
        have HR := Lib.hid hr1
        have e1 : Hid (r1.length = m.inputs.toNat) := by have := OK.out.rn x hxn; rw [getD_of_some hr1] at this; unfold Hid; omega
        clear hr1
        go_wp2
        go_loopw [3, 5] (fun v i wr => ∃ (j : Nat) (a2 : Option Addr) (c2 : Nat) (l2 : List Int), j ≤ m.inputs.toNat ∧ i = .int .i64 j ∧ v = .slice a2 l2.length c2 ∧ Hid (l2 = visit l (r1.take j)) ∧ Ow w1.heap.size (fun _ => True) wr 3 (.slice a2 l2.length c2) l2 ∧
          Below (w.heap.size + 1) (w.alloc (maO m (some ⟨bn, on, none⟩) cn (some ⟨bo, oo, none⟩) co)) wr) (fun _ i _ => m.inputs.toNat - (intOf i).toNat)
        case atStart => exact ⟨0, _, _, l, by omega, rfl, rfl, rfl, hO, hB⟩
        case round =>
          clear hO hB
          obtain ⟨j, a2, c2, l2, hj, rfl, rfl, hl2, hO, hB⟩ := hrel
          obtain ⟨w3, rfl⟩ : ∃ w3 : World, w3 = wr := ⟨_, rfl⟩
          have hl2n : l2.length ≤ m.next.length := by
            have h1 := Mach.bfs_props OK.out k
            refine nodup_le _ _ (by rw [hl2.out, hl.out]; exact visit_nodup _ _ h1.1) (fun z hz => ?_)
            rw [hl2.out, hl.out, visit_mem] at hz
            rcases hz with hz | hz
            · exact h1.2.1 z hz
            · exact Mach.row_range OK.out hxn (by rw [getD_of_some HR.out]; exact List.mem_of_mem_take hz)
          obtain ⟨sfx, hsfx⟩ := visit_prefix (r1.take j) l
          have hx2 : Hid (l2[k]? = some (x : Int)) := by unfold Hid; rw [hl2.out, hsfx, List.getElem?_append_left hlt]; exact HX.out
          have hkl2 : k < l2.length := by rw [hl2.out, hsfx, List.length_append]; omega
          clear hsfx
          obtain ⟨j0, j1, j2, j3⟩ := hC.below hB (by omega)
          by_cases hlj : j < m.inputs.toNat
          · have hlj3 : (j : Int) < m.inputs := by omega
            obtain ⟨b1, o1, c1, l1, b3, o3, c3, l3, t, y, e1', e2', e3', e4', e5', -, -, e8', -, e10', -, e12', -⟩ := (HM.out.below (h0.trans (hB.mono (by omega)))).atS OK.out hxn hlj
            have ht0 : Hid (r1[j]? = some (t : Int)) := by
              have h1 := e8'.out
              unfold Mach.nx at h1
              rw [getD_of_some HR.out] at h1
              have h2 : j < r1.length := by rw [e1.out]; exact hlj
              rw [List.getD_eq_getElem?_getD, List.getElem?_eq_getElem h2] at h1
              unfold Hid
              rw [List.getElem?_eq_getElem h2]
              simpa using h1
            have htk : Hid (visit l (r1.take (j + 1)) = if (t : Int) ∈ l2 then l2 else l2 ++ [(t : Int)]) := by
              unfold Hid
              rw [List.take_add_one, ht0.out]
              simp only [Option.toList_some]
              rw [visit_snoc, ← hl2.out]
            obtain ⟨gq, x9, ha2, hq0, hqf, hx9, -⟩ := hO.at_int hkl2
            subst ha2
            obtain rfl : (x : Int) = x9 := by have h1 := hx9.out; rw [hx2.out] at h1; simpa using h1
            have hSo := (hO.anyM (M' := fun _ => False)).toSl (fun _ _ h => h)
            have hxo : k < l2.length := hkl2
            by_cases hin : (t : Int) ∈ l2
            · have HIN := Lib.hid hin
              have htk2 : Hid (visit l (r1.take (j + 1)) = l2) := by unfold Hid; rw [htk.out, if_pos hin]
              clear hin
              go_wp2
              refine wp_quiet_fast (by kernel_rfl) (by kernel_rfl) ?_
              repeat (first | go_big_quiet_step ((go_at_call 59; exact Calls.quiet_of_same (has_yes (hSo.drewN _) _ HIN.out))) | quiet_step ((go_at_call 59; exact Calls.quiet_of_same (has_yes (hSo.drewN _) _ HIN.out))))
              refine wpQuiet_nil ?_
              intro _ hw'
              obtain ⟨nq, hw''⟩ := hw'
              subst hw''
              go_wp2
              go_roundw
              case rel => exact ⟨j + 1, _, _, l2, by omega, by go_num, rfl, htk2.out.symm, hO.drewN _, bl_drewN hB _⟩
              case measure => simp [intOf]; omega
            · have HIN := Lib.hid hin
              have htk2 : Hid (visit l (r1.take (j + 1)) = l2 ++ [(t : Int)]) := by unfold Hid; rw [htk.out, if_neg hin]
              clear hin
              go_wp2
              refine wp_quiet_fast (by kernel_rfl) (by kernel_rfl) ?_
              repeat (first | go_big_quiet_step ((go_at_call 59; exact Calls.quiet_of_same (has_no (hSo.drewN _) _ HIN.out))) | quiet_step ((go_at_call 59; exact Calls.quiet_of_same (has_no (hSo.drewN _) _ HIN.out))))
              refine wpQuiet_nil ?_
              intro _ hw'
              obtain ⟨nq, hw''⟩ := hw'
              subst hw''
              have hOd : Ow w1.heap.size (fun _ => True) (w3.drewN nq) 3 (.slice (some ⟨gq, 0, none⟩) l2.length c2) l2 := hO.drewN nq
              have hBd := bl_drewN hB nq
              have hS0 : (w3.drewN nq).cell? ⟨w.heap.size, 2, none⟩ = some (.slice (some ⟨bn, on, none⟩) m.next.length cn) ∧ (w3.drewN nq).cell? ⟨gq, k, none⟩ = some (.int .i64 (x : Int)) ∧ (w3.drewN nq).cell? ⟨bn, on + x, none⟩ = some (.slice (some ⟨b1, o1, none⟩) l1 c1) ∧ (w3.drewN nq).cell? ⟨b1, o1 + j, none⟩ = some (.int .i64 (t : Int)) :=
                ⟨by simpa using j2, by simpa using hq0, by simpa using e1', by simpa using e3'⟩
              clear hO hB j0 j1 j2 j3 hq0 hqf e1' e2' e3' e4' hSo
              generalize w3.drewN nq = w4 at *
              go_wp2
              refine wp_region_T (fun w' => w'.cell? ⟨w.heap.size, 2, none⟩ = some (.slice (some ⟨bn, on, none⟩) m.next.length cn) ∧ w'.cell? ⟨gq, k, none⟩ = some (.int .i64 (x : Int)) ∧ w'.cell? ⟨bn, on + x, none⟩ = some (.slice (some ⟨b1, o1, none⟩) l1 c1) ∧ w'.cell? ⟨b1, o1 + j, none⟩ = some (.int .i64 (t : Int))) [0, 1, 2, 3, 4, 5, 6, 7, 8, 9, 10, 11] (by kernel_rfl) ?_
              have hSS : w4.drew.cell? ⟨w.heap.size, 2, none⟩ = some (.slice (some ⟨bn, on, none⟩) m.next.length cn) ∧ w4.drew.cell? ⟨gq, k, none⟩ = some (.int .i64 (x : Int)) ∧ w4.drew.cell? ⟨bn, on + x, none⟩ = some (.slice (some ⟨b1, o1, none⟩) l1 c1) ∧ w4.drew.cell? ⟨b1, o1 + j, none⟩ = some (.int .i64 (t : Int)) := by simpa using hS0
              have hO5 := hOd.drew
              have hB5 := hBd.drew
              clear hS0 hOd hBd
              generalize w4.drew = w5 at *
              have hz5 : w1.heap.size ≤ w5.heap.size := by have := (hO5.lt gq rfl); omega
              refine wpAnyT_take (i := 0) (v := ?v37) rfl (by kernel_rfl) (by kernel_rfl) (by kernel_rfl) (by kernel_rfl) (by kernel_rfl) (fun _ _ _ h => h) (Or.inl ⟨by rfl, ?y37⟩) (by assumption) ?r37
              case y37 => (intro w' hSw; (try dsimp only at hSw); go_simp; try with_reducible rfl)
              try simp only [Act.put, List.setIfInBounds_toArray, List.set_cons_zero, List.set_cons_succ]
              refine wpAnyT_take (i := 1) (v := ?v38) rfl (by kernel_rfl) (by kernel_rfl) (by kernel_rfl) (by kernel_rfl) (by kernel_rfl) (fun _ _ _ h => h) (Or.inl ⟨by rfl, ?y38⟩) (by assumption) ?r38
              case y38 => (intro w' hSw; (try dsimp only at hSw); go_simp; try with_reducible rfl)
              try simp only [Act.put, List.setIfInBounds_toArray, List.set_cons_zero, List.set_cons_succ]
              refine wpAnyT_take (i := 2) (v := ?v39) rfl (by kernel_rfl) (by kernel_rfl) (by kernel_rfl) (by kernel_rfl) (by kernel_rfl) (fun _ _ _ h => h) (Or.inl ⟨by rfl, ?y39⟩) (by assumption) ?r39
              case y39 => (intro w' hSw; (try dsimp only at hSw); go_simp; try with_reducible rfl)
              try simp only [Act.put, List.setIfInBounds_toArray, List.set_cons_zero, List.set_cons_succ]
              refine wpAnyT_take (i := 3) (v := ?v40) rfl (by kernel_rfl) (by kernel_rfl) (by kernel_rfl) (by kernel_rfl) (by kernel_rfl) (fun _ _ _ h => h) (Or.inl ⟨by rfl, ?y40⟩) (by assumption) ?r40
              case y40 => (intro w' hSw; (try dsimp only at hSw); go_simp; try with_reducible rfl)
              try simp only [Act.put, List.setIfInBounds_toArray, List.set_cons_zero, List.set_cons_succ]
              refine wpAnyT_take (i := 4) (v := ?v41) rfl (by kernel_rfl) (by kernel_rfl) (by kernel_rfl) (by kernel_rfl) (by kernel_rfl) (fun _ _ _ h => h) (Or.inl ⟨by rfl, ?y41⟩) (by assumption) ?r41
              case y41 => (intro w' hSw; (try dsimp only at hSw); go_simp; try with_reducible rfl)
              try simp only [Act.put, List.setIfInBounds_toArray, List.set_cons_zero, List.set_cons_succ]
              refine wpAnyT_take (i := 5) (v := ?v42) rfl (by kernel_rfl) (by kernel_rfl) (by kernel_rfl) (by kernel_rfl) (by kernel_rfl) (fun _ _ _ h => h) (Or.inl ⟨by rfl, ?y42⟩) (by assumption) ?r42
              case y42 => (intro w' hSw; (try dsimp only at hSw); go_simp; try with_reducible rfl)
              try simp only [Act.put, List.setIfInBounds_toArray, List.set_cons_zero, List.set_cons_succ]
              refine wpAnyT_take (i := 6) (v := ?v43) rfl (by kernel_rfl) (by kernel_rfl) (by kernel_rfl) (by kernel_rfl) (by kernel_rfl) (fun _ _ _ h => h) (Or.inl ⟨by rfl, ?y43⟩) (by assumption) ?r43
              case y43 => (intro w' hSw; (try dsimp only at hSw); go_simp; try with_reducible rfl)
              try simp only [Act.put, List.setIfInBounds_toArray, List.set_cons_zero, List.set_cons_succ]
              refine wpAnyT_take (i := 7) (v := ?v44) rfl (by kernel_rfl) (by kernel_rfl) (by kernel_rfl) (by kernel_rfl) (by kernel_rfl) (fun _ _ _ h => h) (Or.inl ⟨by rfl, ?y44⟩) (by assumption) ?r44
              case y44 => (intro w' hSw; (try dsimp only at hSw); go_simp; try with_reducible rfl)
              try simp only [Act.put, List.setIfInBounds_toArray, List.set_cons_zero, List.set_cons_succ]
              refine wpAnyT_take (i := 8) (v := ?v45) rfl (by kernel_rfl) (by kernel_rfl) (by kernel_rfl) (by kernel_rfl) (by kernel_rfl) (fun _ _ _ h => h) (Or.inl ⟨by rfl, ?y45⟩) (by assumption) ?r45
              case y45 => (intro w' hSw; (try dsimp only at hSw); go_simp; try with_reducible rfl)
              try simp only [Act.put, List.setIfInBounds_toArray, List.set_cons_zero, List.set_cons_succ]
              refine wpAnyT_take (i := 9) (v := ?v46) rfl (by kernel_rfl) (by kernel_rfl) (by kernel_rfl) (by kernel_rfl) (by kernel_rfl) (fun _ _ _ h => h) (Or.inl ⟨by rfl, ?y46⟩) (by assumption) ?r46
              case y46 => (intro w' hSw; (try dsimp only at hSw); go_simp; try with_reducible rfl)
              try simp only [Act.put, List.setIfInBounds_toArray, List.set_cons_zero, List.set_cons_succ]
              refine wpAnyT_take (i := 10) (v := ?v47) rfl (by kernel_rfl) (by kernel_rfl) (by kernel_rfl) (by kernel_rfl) (by kernel_rfl) (fun _ _ _ h => h) (Or.inl ⟨by rfl, ?y47⟩) (by assumption) ?r47
              case y47 => (intro w' hSw; (try dsimp only at hSw); go_simp; try with_reducible rfl)
              try simp only [Act.put, List.setIfInBounds_toArray, List.set_cons_zero, List.set_cons_succ]
              refine wpAnyT_take (i := 11) (v := ?v48) rfl (by kernel_rfl) (by kernel_rfl) (by kernel_rfl) (by kernel_rfl) (by kernel_rfl) (fun _ _ _ h => h) (Or.inl ⟨by rfl, ?y48⟩) (by assumption) ?r48
              case y48 => (intro w' hSw; (try dsimp only at hSw); go_simp; try with_reducible rfl)
              try simp only [Act.put, List.setIfInBounds_toArray, List.set_cons_zero, List.set_cons_succ]
              have hal : ∀ p : Addr, p.block < w5.heap.size → (w5.alloc (.cells #[.int .i64 (t : Int)] 3)).cell? p = w5.cell? p := fun p hp => ((Below.refl _ _).alloc (Nat.le_refl _) _).cell hp
              have hk1 := lt_of_cell hSS.2.1
              have hk2 := lt_of_cell hSS.2.2.1
              have hk3 := lt_of_cell hSS.2.2.2
              refine wpAnyT_one (i := 12) (by kernel_rfl) rfl rfl (fun K hK => ?_)
              go_simp
              refine hK _ _ (fun _ => ⟨(hal _ (show w.heap.size < w5.heap.size by omega)).trans hSS.1, (hal _ hk1).trans hSS.2.1, (hal _ hk2).trans hSS.2.2.1, (hal _ hk3).trans hSS.2.2.2⟩) ?_
              clear hK K hal hk1 hk2 hk3
              have hO6 := hO5.alloc (.cells #[.int .i64 (t : Int)] 3)
              have hB6 := hB5.alloc (by omega) (.cells #[.int .i64 (t : Int)] 3)
              clear hSS hO5 hB5
              refine wpAnyT_late (i := 13) (by kernel_rfl) (by kernel_rfl) rfl rfl (fun K hK => ?_)
              refine wp_push_o (B := w1.heap.size) (M := fun _ => True) (v := .slice (some ⟨gq, 0, none⟩) l2.length c2) (l := l2) (y := (t : Int)) rfl Try.underlying27 info_int rfl rfl hO6 (by simp [go_sem]) (by unfold i64; omega) (by omega) (by simp; omega) ?_
              intro a7 c7 l7 w7 hl7 hO7 hbk7 hgr7
              have hB7 := hB6.grown hgr7 (by simp; omega) (fun q hq => by have := (hO6.lt q hq).1; omega)
              refine hK _ _ ?_
              clear hK K hgr7 hbk7 hO6 hB6
              refine wpAnyT_late (i := 14) (by kernel_rfl) (by kernel_rfl) rfl rfl (fun K hK => ?_)
              go_simp
              refine hK _ _ ?_
              clear hK K
              refine wpAnyT_done (by kernel_rfl) ?_ _
              go_wp2
              go_roundw
              case rel => exact ⟨j + 1, a7, c7, l7, by omega, by go_num, rfl, by unfold Hid; rw [hl7.out, htk2.out], hO7, hB7⟩
              case measure => simp [intOf]; omega
          · go_wp2
            go_roundw
            case rel =>
              refine ⟨k + 1, a2, c2, l2, by omega, by go_num, rfl, ?_, hO, hB⟩
              unfold Hid
              have hx0' := HX.out
              rw [hl.out] at hx0'
              rw [Mach.bfs_succ, if_pos (by rw [← hl.out]; exact hlt), getD_of_some hx0', Int.toNat_natCast, getD_of_some HR.out, hl2.out, List.take_of_length_le (by rw [e1.out]; omega), hl.out]
            case measure => simp [intOf]; omega
      · have hst : Hid (l = m.reachOf) := by
          unfold Hid Mach.reachOf
          rw [if_pos HE.out, Mach.reach_of_stop (i := k) (by rw [← hl.out]; exact hlt) hk, ← hl.out]
        have hBf := h0.trans (hB.mono (by omega))
        have hf : Sl (fun k => k < w.heap.size) w2 a' c' l := hO.fresh (by omega)
        go_wp2
        go_ret
        exact ⟨a', c', l, rfl, hst, hf, hBf⟩
  · have he' : (m.err != 0) = true := by simp [he]
    have HE := Lib.hid he
    clear he
    go_enter Try.func42, Try.ntmps42
    go_wp2_with fail
    refine (HV.out).mono ?_
    rintro e w1 ⟨rfl, hb1⟩
    have hBf := h0.trans (hb1.mono (by simp))
    go_wp2
    go_ret
    exact ⟨none, 0, [], rfl, by unfold Hid Mach.reachOf; rw [if_neg HE.out], Sl.nil _ _ _ (by unfold maxLen; omega), hBf⟩
end
end Go.Proofs.Ytdnmgiabgpilkaa
/- Iso: the program's and the reference's. No condition beyond that the fields read as lists of lists. -/
namespace Go.Proofs.Ytdnmgiabgpilkaa
open Go.RowKit
theorem ow_len {B : Nat} {M : Nat → Prop} {w : World} {T : TypeId} {a : Option Addr} {c n : Nat} {l : List Int} (hn : n = l.length) (h : Ow B M w T (.slice a n c) l) : Ow B M w T (.slice a l.length c) l := by subst hn; exact h
theorem ret3_num {A : Option Addr} {n n' c : Nat} {f : Bool} {x y : Int} (h : n = n') (h2 : x = y) : Ending.returned (.tuple #[.slice A n c, .bool f, .int .i64 x]) = .returned (.tuple #[.slice A n' c, .bool f, .int .i64 y]) := by rw [h, h2]
section
variable {M : Nat → Prop} {w : World} {an ao bn bo : Option Addr} {acn aco bcn bco : Nat} {a b : Mach}

set_option maxRecDepth 100000 in
set_option maxHeartbeats 8000000 in
theorem iso_any (ha : Ma M w an acn ao aco a) (hb : Ma M w bn bcn bo bco b) :
    Calls Try.prog 37 #[maV a an acn ao aco, maV b bn bcn bo bco] w fun e w' => ∃ ad c l f, e = .returned (.tuple #[.slice ad l.length c, .bool f, .int .i64 (chk a b)]) ∧ Hid (ansW (isoW a b) l f) ∧ Sl (fun k => k < w.heap.size) w' ad c l ∧ Below w.heap.size w w' := by
  have HA := Lib.hid (ha.ext ((Ext.alloc M w (maO a an acn ao aco)).trans (Ext.alloc M _ (maO b bn bcn bo bco))))
  have HB := Lib.hid (hb.ext ((Ext.alloc M w (maO a an acn ao aco)).trans (Ext.alloc M _ (maO b bn bcn bo bco))))
  have h0 : Below w.heap.size w ((w.alloc (maO a an acn ao aco)).alloc (maO b bn bcn bo bco)) := ((Below.refl _ _).alloc (Nat.le_refl _) _).alloc (by simp) _
  have hCa : C4 ((w.alloc (maO a an acn ao aco)).alloc (maO b bn bcn bo bco)) w.heap.size an acn ao aco a := (c4_new w).below (B := w.heap.size + 1) ((Below.refl _ _).alloc (by simp) _) (by omega)
  have hCb : C4 ((w.alloc (maO a an acn ao aco)).alloc (maO b bn bcn bo bco)) (w.heap.size + 1) bn bcn bo bco b := by simpa using c4_new (m := b) (an := bn) (cn := bcn) (ao := bo) (co := bco) (w.alloc (maO a an acn ao aco))
  have HC := Lib.hid (check_any HA.out HB.out)
  clear ha hb
  by_cases h : chk a b = 0
  · have h' : (chk a b != 0) = false := by simp [h]
    have H := Lib.hid h
    have HZ := Lib.hid (chk_zero h)
    clear h
    have OA := Lib.hid (a.ok_of_err HZ.out.1)
    have OB := Lib.hid (b.ok_of_err HZ.out.2.1)
    have n1 := OA.out.n1
    have n1' := OB.out.n1
    have i0 := OA.out.i0
    have i1 := OA.out.i1
    obtain ⟨xb, xo, yb, yo, rfl, rfl⟩ := HA.out.addr OA.out
    obtain ⟨ub, uo, vb, vo, rfl, rfl⟩ := HB.out.addr OB.out
    go_enter Try.func37, Try.ntmps37
    go_wp2_with fail
    refine (HC.out).mono ?_
    rintro e w1 ⟨rfl, hb1⟩
    have hz1 : w.heap.size + 2 ≤ w1.heap.size := by have := hb1.size; simpa using this
    have hB1 : Below (w.heap.size + 2) ((w.alloc (maO a (some ⟨xb, xo, none⟩) acn (some ⟨yb, yo, none⟩) aco)).alloc (maO b (some ⟨ub, uo, none⟩) bcn (some ⟨vb, vo, none⟩) bco)) w1 := hb1.mono (by simp)
    have hA1 := (HA.out.below (by simpa using hb1)).ext (Ext.drew M w1)
    have hM1 := (HB.out.below (by simpa using hb1)).ext (Ext.drew M w1)
    have hSS : C4 w1.drew w.heap.size (some ⟨xb, xo, none⟩) acn (some ⟨yb, yo, none⟩) aco a ∧ C4 w1.drew (w.heap.size + 1) (some ⟨ub, uo, none⟩) bcn (some ⟨vb, vo, none⟩) bco b := ⟨(hCa.below hB1 (by omega)).drew, (hCb.below hB1 (by omega)).drew⟩
    have hB2 := (h0.trans (hB1.mono (by omega))).drew
    have hz2 : w.heap.size + 2 ≤ w1.drew.heap.size := hz1
    clear hb1 HC hB1 hCa hCb
    go_wp2
    refine wp_region_L (fun w' => C4 w' w.heap.size (some ⟨xb, xo, none⟩) acn (some ⟨yb, yo, none⟩) aco a ∧ C4 w' (w.heap.size + 1) (some ⟨ub, uo, none⟩) bcn (some ⟨vb, vo, none⟩) bco b) [0, 2] (by kernel_rfl) ?_
    generalize w1.drew = w2 at *
    refine wpAnyL_take (i := 0) (v := ?v1) rfl (by kernel_rfl) (by kernel_rfl) (by kernel_rfl) (by kernel_rfl) (fun _ _ _ h => h) (Or.inl ⟨by rfl, ?y1⟩) (by assumption) ?r1
    case y1 => (intro w' hSw; (try dsimp only at hSw); go_simp; try with_reducible rfl)
    try simp only [Act.put, List.setIfInBounds_toArray, List.set_cons_zero, List.set_cons_succ]
    refine wpAnyL_take (i := 2) (v := ?v2) rfl (by kernel_rfl) (by kernel_rfl) (by kernel_rfl) (by kernel_rfl) (fun _ _ _ h => h) (Or.inl ⟨by rfl, ?y2⟩) (by assumption) ?r2
    case y2 => (intro w' hSw; (try dsimp only at hSw); go_simp; try with_reducible rfl)
    try simp only [Act.put, List.setIfInBounds_toArray, List.set_cons_zero, List.set_cons_succ]
    have HR := Lib.hid (reach_any hA1)
    refine wpAnyL_one (i := 1) (by kernel_rfl) rfl rfl (fun K hK => ?_)
    go_simp
    refine (HR.out).mono ?_
    rintro e w3 ⟨a1, c1, l1, rfl, hl1, hs1, hb3⟩
    have hS3 : C4 w3 w.heap.size (some ⟨xb, xo, none⟩) acn (some ⟨yb, yo, none⟩) aco a ∧ C4 w3 (w.heap.size + 1) (some ⟨ub, uo, none⟩) bcn (some ⟨vb, vo, none⟩) bco b := ⟨hSS.1.below hb3 (by omega), hSS.2.below hb3 (by omega)⟩
    have hz3 := hb3.size
    refine hK _ _ (fun _ => hS3) ?_
    clear hK K HR hSS
    have HR := Lib.hid (reach_any (hM1.below hb3))
    have hA3 := hA1.below hb3
    have hM3 := hM1.below hb3
    have hB3 := hB2.trans (hb3.mono (by omega))
    clear hA1 hM1 hB2 hb3
    refine wpAnyL_one (i := 3) (by kernel_rfl) rfl rfl (fun K hK => ?_)
    go_simp
    refine (HR.out).mono ?_
    rintro e w4 ⟨a2, c2, l2, rfl, hl2, hs2, hb4⟩
    have hS4 : C4 w4 w.heap.size (some ⟨xb, xo, none⟩) acn (some ⟨yb, yo, none⟩) aco a ∧ C4 w4 (w.heap.size + 1) (some ⟨ub, uo, none⟩) bcn (some ⟨vb, vo, none⟩) bco b := ⟨hS3.1.below hb4 (by omega), hS3.2.below hb4 (by omega)⟩
    have hz4 : w.heap.size + 2 ≤ w4.heap.size := by have := hb4.size; omega
    refine hK _ _ (fun _ => hS4) ?_
    clear hK K HR hS3
    have hA4 := Lib.hid (hA3.below hb4)
    have hM4 := Lib.hid (hM3.below hb4)
    have hB4 := hB3.trans (hb4.mono (by omega))
    have hs14 := (hs1.below hb4).anti (M' := fun _ => False) (fun _ _ h => h.elim)
    have hs24 := hs2.anti (M' := fun _ => False) (fun _ _ h => h.elim)
    clear hA3 hM3 hB3 hb4 hs1 hs2
    refine wpAnyL_one (i := 4) (by kernel_rfl) rfl rfl (fun K hK => ?_)
    go_simp
    refine hK _ _ (fun _ => hS4) ?_
    clear hK K
    refine wpAnyL_one (i := 5) (by kernel_rfl) rfl rfl (fun K hK => ?_)
    go_simp
    refine hK _ _ (fun _ => hS4) ?_
    clear hK K
    refine wpAnyL_done (by kernel_rfl) ?_ _
    have HL1 : Hid (l1 = a.reach) := by have := hl1.out; unfold Mach.reachOf at this; rwa [if_pos HZ.out.1] at this
    have HL2 : Hid (l2 = b.reach) := by have := hl2.out; unfold Mach.reachOf at this; rwa [if_pos HZ.out.2.1] at this
    have hl1n : l1.length ≤ 128 := by rw [HL1.out]; have := Mach.reach_le OA.out; omega
    have hl2n : l2.length ≤ 128 := by rw [HL2.out]; have := Mach.reach_le OB.out; omega
    clear hl1 hl2
    have hS4k := Lib.hid hS4
    obtain ⟨⟨j0, j1, j2, j3⟩, ⟨k0, k1, k2, k3⟩⟩ := hS4
    by_cases h1 : l1.length = a.next.length
    · have h1' : (((l1.length : Nat) : Int) != ((a.next.length : Nat) : Int)) = false := by simp [h1]
      by_cases h2 : l2.length = b.next.length
      · have h2' : (((l2.length : Nat) : Int) != ((b.next.length : Nat) : Int)) = false := by simp [h2]
        by_cases h3 : l1.length = l2.length
        · have h3' : (((l1.length : Nat) : Int) != ((l2.length : Nat) : Int)) = false := by simp [h3]
          have H1 := Lib.hid h1
          have H2 := Lib.hid h2
          have H3 := Lib.hid h3
          clear h1 h2 h3
          go_wp2_with (at_make; refine wpList_mk_i (B := w4.heap.size) (n := l1.length) rfl rfl Try.underlying27 info_int rfl (by omega) (Nat.le_refl _) ?_)
          intro g c num w5 hnum hO5 hb5 hg
          have hnl : Hid (num.length = l1.length) := by unfold Hid; rw [hnum.out, List.length_replicate]
          have hz5 := hb5.size
          have hnl1 : num.length ≤ l1.length := Nat.le_of_eq hnl.out
          have hnl2 : l1.length ≤ num.length := Nat.le_of_eq hnl.out.symm
          clear j0 j1 j2 j3 k0 k1 k2 k3
          go_wp2
          have hnm0 : Hid (num = fillL l1 l2 0) := hnum.out
          go_loopw [52] (fun i wr => ∃ (k : Nat) (nm : List Int), k ≤ l1.length ∧ i = .int .i64 k ∧ Hid (nm = fillL l1 l2 k) ∧ Hid (num.length = nm.length) ∧ Ow w4.heap.size (fun k => w4.heap.size ≤ k) wr 3 (.slice (some ⟨g, 0, none⟩) num.length c) nm ∧ Below w4.heap.size w4 wr) (fun i _ => l1.length - (intOf i).toNat)
          case atStart => exact ⟨0, num, by omega, rfl, hnm0, rfl, hO5, hb5⟩
          case round =>
            clear hO5 hb5 hnum hnm0
            obtain ⟨k, nm, hk, rfl, hnm, hnn, hO, hB⟩ := hrel
            obtain ⟨w6, rfl⟩ : ∃ w6 : World, w6 = wr := ⟨_, rfl⟩
            by_cases hlt : k < l1.length
            · have hlt2 : k < l2.length := by rw [← H3.out]; exact hlt
              obtain ⟨b1, o1, x0, rfl, hxc, hx0, -⟩ := (hs14.below hB).at_int hlt
              obtain ⟨b2, o2, y0, rfl, hyc, hy0, hy64⟩ := (hs24.below hB).at_int hlt2
              have hxr := (Mach.reach_props OA.out).2.1 x0 (by rw [← HL1.out]; exact List.mem_of_getElem? hx0.out)
              obtain ⟨x, rfl⟩ := Int.eq_ofNat_of_zero_le hxr.1
              have hxn : x < num.length := by have := H1.out; omega
              have hxm : x < nm.length := by have := hnn.out; omega
              obtain ⟨g', z, hg', hzc, hzf, -, -⟩ := hO.at_int' hnn.out hxm
              obtain rfl : g = g' := by simpa using hg'
              have hO2 := hO.set_int hnn.out (show w4.heap.size ≤ g by omega) (x := y0) x hy64.out
              have hB2 := hB.setCell (p := ⟨g, x, none⟩) (show w4.heap.size ≤ g by omega) (.int .i64 y0)
              have hnm2 : Hid (nm.set x y0 = fillL l1 l2 (k + 1)) := by
                unfold Hid; rw [hnm.out]; simp only [fillL]; rw [getD_of_some hx0.out, getD_of_some hy0.out, Int.toNat_natCast]
              clear hO hB
              go_wp2
              go_roundw
              case rel => exact ⟨k + 1, _, by omega, by go_num, hnm2, by unfold Hid; rw [List.length_set]; exact hnn.out, hO2, hB2⟩
              case measure => simp [intOf]; omega
            · have HT : Hid (nm = isoT a b) := by unfold Hid isoT; rw [hnm.out, HL1.out, HL2.out, show k = a.reach.length by rw [← HL1.out]; omega]
              have hrange : Hid (∀ z ∈ nm, 0 ≤ z ∧ z < b.next.length) := by
                unfold Hid; rw [hnm.out]
                exact fillL_range OB.out.n0 (by rw [HL2.out]; exact (Mach.reach_props OB.out).2.1) H3.out k hk
              have hnmn : Hid (nm.length = a.next.length) := by unfold Hid; rw [← hnn.out, hnl.out, H1.out]
              have HA6 := Lib.hid (hA4.out.below hB)
              have HB6 := Lib.hid (hM4.out.below hB)
              clear hnm
              go_wp2
              have HD0 : Hid (∃ n, w6 = w6.drewN n) := ⟨0, rfl⟩
              have HG0 : Hid (∀ s, s < 0 → ∀ i, i < a.inputs.toNat → isoAt a b nm s i) := fun s hs => absurd hs (Nat.not_lt_zero s)
              go_loopw [67] (fun i wr => ∃ k : Nat, k ≤ num.length ∧ i = .int .i64 k ∧ Hid (∀ s, s < k → ∀ i, i < a.inputs.toNat → isoAt a b nm s i) ∧ Hid (∃ n, wr = w6.drewN n)) (fun i _ => num.length - (intOf i).toNat)
              case atStart => exact ⟨0, by omega, rfl, HG0, HD0⟩
              case round =>
                clear HD0 HG0
                obtain ⟨s, hsn, rfl, hgood, hD⟩ := hrel
                obtain ⟨w7, rfl⟩ : ∃ w7 : World, w7 = wr := ⟨_, rfl⟩
                have hO7 : Ow w4.heap.size (fun k => w4.heap.size ≤ k) w7 3 (.slice (some ⟨g, 0, none⟩) num.length c) nm := by obtain ⟨n, e⟩ := hD.out; rw [e]; exact hO.drewN n
                have hB7 : Below w4.heap.size w4 w7 := by obtain ⟨n, e⟩ := hD.out; rw [e]; exact bl_drewN hB n
                by_cases hls : s < num.length
                · have hsm : s < nm.length := by have := hnn.out; omega
                  have hsa : s < a.next.length := by have := hnmn.out; omega
                  have hsao : s < a.out.length := by rw [OA.out.lo]; exact hsa
                  obtain ⟨g', t0, hg', htc, -, ht0, -⟩ := hO7.at_int' hnn.out hsm
                  obtain rfl : g = g' := by simpa using hg'
                  have htr := hrange.out t0 (List.mem_of_getElem? ht0.out)
                  obtain ⟨t, rfl⟩ := Int.eq_ofNat_of_zero_le htr.1
                  have htn : t < b.next.length := by omega
                  have hto : t < b.out.length := by rw [OB.out.lo]; exact htn
                  obtain ⟨⟨j0, j1, j2, j3⟩, -⟩ := (show C4 w7 w.heap.size (some ⟨xb, xo, none⟩) acn (some ⟨yb, yo, none⟩) aco a ∧ C4 w7 (w.heap.size + 1) (some ⟨ub, uo, none⟩) bcn (some ⟨vb, vo, none⟩) bco b from ⟨hS4k.out.1.below hB7 (by omega), hS4k.out.2.below hB7 (by omega)⟩)
                  go_wp2
                  have HG1 : Hid (∀ i, i < 0 → isoAt a b nm s i) := fun i hi => absurd hi (Nat.not_lt_zero i)
                  go_loopw [74] (fun i wr => ∃ j : Nat, j ≤ a.inputs.toNat ∧ i = .int .i64 j ∧ Hid (∀ i, i < j → isoAt a b nm s i) ∧ Hid (∃ n, wr = w6.drewN n)) (fun i _ => a.inputs.toNat - (intOf i).toNat)
                  case atStart => exact ⟨0, by omega, rfl, HG1, hD⟩
                  case round =>
                    clear HG1 j0 j1 j2 j3 hO7 hB7 htc
                    obtain ⟨j, hj, rfl, hrow, hD8⟩ := hrel
                    obtain ⟨w8, rfl⟩ : ∃ w8 : World, w8 = wr := ⟨_, rfl⟩
                    have hO8 : Ow w4.heap.size (fun k => w4.heap.size ≤ k) w8 3 (.slice (some ⟨g, 0, none⟩) num.length c) nm := by obtain ⟨n, e⟩ := hD8.out; rw [e]; exact hO.drewN n
                    have hB8 : Below w4.heap.size w4 w8 := by obtain ⟨n, e⟩ := hD8.out; rw [e]; exact bl_drewN hB n
                    obtain ⟨⟨j0, j1, j2, j3⟩, ⟨k0, k1, k2, k3⟩⟩ := (show C4 w8 w.heap.size (some ⟨xb, xo, none⟩) acn (some ⟨yb, yo, none⟩) aco a ∧ C4 w8 (w.heap.size + 1) (some ⟨ub, uo, none⟩) bcn (some ⟨vb, vo, none⟩) bco b from ⟨hS4k.out.1.below hB8 (by omega), hS4k.out.2.below hB8 (by omega)⟩)
                    by_cases hlj : j < a.inputs.toNat
                    · have hlj2 : j < b.inputs.toNat := by rw [← HZ.out.2.2]; exact hlj
                      have hlj3 : (j : Int) < a.inputs := by omega
                      obtain ⟨b1, o1, c1, e1, b2, o2, c2, e2, n, y, ha1, ha2, ha3, ha4, ha5, ha6, ha7, ha8, ha9, ha10, ha11, ha12, ha13⟩ := (hA4.out.below hB8).atS OA.out hsa hlj
                      obtain ⟨b3, o3, c3, e3, b4, o4, c4, e4, n', y', hb1, hb2, hb3, hb4, hb5, hb6, hb7, hb8, hb9, hb10, hb11, hb12, hb13⟩ := (hM4.out.below hB8).atS OB.out htn hlj2
                      have hnn1 : n < nm.length := by have := hnmn.out; omega
                      have hnn2 : n < num.length := by have := hnn.out; omega
                      have hnn3 : s < num.length := hls
                      obtain ⟨g', z, hg', hzc, -, hz, -⟩ := hO8.at_int' hnn.out hnn1
                      obtain rfl : g = g' := by simpa using hg'
                      obtain ⟨g', t9, hg', htc, -, ht9, -⟩ := hO8.at_int' hnn.out hsm
                      obtain rfl : g = g' := by simpa using hg'
                      obtain rfl : (t : Int) = t9 := by have h1 := ht9.out; rw [ht0.out] at h1; simpa using h1
                      have hat : Hid (isoAt a b nm s j ↔ y = y' ∧ z = (n' : Int)) := by
                        unfold Hid isoAt
                        rw [getD_of_some ht0.out, Int.toNat_natCast, ha9.out, hb9.out, ha8.out, hb8.out, Int.toNat_natCast, getD_of_some hz.out]
                      by_cases hy : y = y'
                      · have hyb : (y != y') = false := by simp [hy]
                        have HY := Lib.hid hy
                        clear hy
                        by_cases hz1 : z = (n' : Int)
                        · have hzb : (z != (n' : Int)) = false := by simp [hz1]
                          have hrow2 : Hid (∀ i, i < j + 1 → isoAt a b nm s i) := by
                            intro i hi
                            by_cases e : i = j
                            · subst e; exact hat.out.2 ⟨HY.out, hz1⟩
                            · exact hrow.out i (by omega)
                          clear hz1
                          go_wp2
                          refine wp_quiet_fast (by kernel_rfl) (by kernel_rfl) ?_
                          repeat (first | go_big_quiet_step (fail) | quiet_step (fail))
                          refine wpQuiet_nil ?_
                          intro _ hw'
                          obtain ⟨nq, hw''⟩ := hw'
                          subst hw''
                          go_wp2
                          go_roundw
                          case rel => exact ⟨j + 1, by omega, by go_num, hrow2, dr_add hD8 _⟩
                          case measure => simp [intOf]; omega
                        · have hzb : (z != (n' : Int)) = true := by simp [hz1]
                          have HN := Lib.hid (isoW_no (a := a) (b := b) (fun e => hz1 (hat.out.1 (HT.out ▸ e.2 s (by rw [← HL1.out, H1.out]; exact hsa) j hlj)).2))
                          clear hz1
                          have hBf := hB4.trans (hB8.mono (by omega))
                          go_wp2
                          refine wp_quiet_fast (by kernel_rfl) (by kernel_rfl) ?_
                          repeat (first | go_big_quiet_step (fail) | quiet_step (fail))
                          refine wpQuiet_nil ?_
                          intro _ hw'
                          obtain ⟨nq, hw''⟩ := hw'
                          subst hw''
                          go_wp2
                          go_ret3
                          refine ⟨none, 0, [], false, ret3_int H.out.symm, ?_, Sl.nil _ _ _ (by unfold maxLen; omega), bl_drewN hBf _⟩
                          unfold Hid; rw [HN.out]; exact ⟨rfl, rfl⟩
                      · have hyb : (y != y') = true := by simp [hy]
                        have HN := Lib.hid (isoW_no (a := a) (b := b) (fun e => hy (hat.out.1 (HT.out ▸ e.2 s (by rw [← HL1.out, H1.out]; exact hsa) j hlj)).1))
                        clear hy
                        have hBf := hB4.trans (hB8.mono (by omega))
                        go_wp2
                        refine wp_quiet_fast (by kernel_rfl) (by kernel_rfl) ?_
                        repeat (first | go_big_quiet_step (fail) | quiet_step (fail))
                        refine wpQuiet_nil ?_
                        intro _ hw'
                        obtain ⟨nq, hw''⟩ := hw'
                        subst hw''
                        go_wp2
                        go_ret3
                        refine ⟨none, 0, [], false, ret3_int H.out.symm, ?_, Sl.nil _ _ _ (by unfold maxLen; omega), bl_drewN hBf _⟩
                        unfold Hid; rw [HN.out]; exact ⟨rfl, rfl⟩
                    · have hlj3 : ¬ (j : Int) < a.inputs := by omega
                      have hgood2 : Hid (∀ s', s' < s + 1 → ∀ i, i < a.inputs.toNat → isoAt a b nm s' i) := by
                        intro s' hs' i hi
                        by_cases e : s' = s
                        · subst e; exact hrow.out i (by omega)
                        · exact hgood.out s' (by omega) i hi
                      go_wp2
                      go_roundw
                      case rel => exact ⟨s + 1, by omega, by go_num, hgood2, hD8⟩
                      case measure => simp [intOf]; omega
                · have HN := Lib.hid (isoW_yes (a := a) (b := b) H.out ⟨⟨by rw [← HL1.out]; exact H1.out, by rw [← HL2.out]; exact H2.out, by rw [← HL1.out, ← HL2.out]; exact H3.out⟩, fun s' hs' i hi => HT.out ▸ hgood.out s' (by rw [← HL1.out] at hs'; omega) i hi⟩)
                  have hBf := hB4.trans (hB7.mono (by omega))
                  have hSf : Sl (fun k => k < w.heap.size) w7 (some ⟨g, 0, none⟩) c nm := (ow_len hnn.out hO7).fresh (by omega)
                  go_wp2
                  go_ret3
                  refine ⟨_, c, nm, true, ret3_num hnn.out H.out.symm, ?_, hSf, hBf⟩
                  unfold Hid; rw [HN.out, HT.out]; exact ⟨rfl, rfl⟩
        · have h3' : (((l1.length : Nat) : Int) != ((l2.length : Nat) : Int)) = true := by simp; omega
          have HN := Lib.hid (isoW_no (a := a) (b := b) (fun e => h3 (by rw [HL1.out, HL2.out]; exact e.1.2.2)))
          have H1 := Lib.hid h1
          have H2 := Lib.hid h2
          have H3 := Lib.hid h3
          clear h1 h2 h3
          go_wp2
          go_ret3
          refine ⟨none, 0, [], false, ret3_int H.out.symm, ?_, Sl.nil _ _ _ (by unfold maxLen; omega), hB4⟩
          unfold Hid; rw [HN.out]; exact ⟨rfl, rfl⟩
      · have h2' : (((l2.length : Nat) : Int) != ((b.next.length : Nat) : Int)) = true := by simp; omega
        have HN := Lib.hid (isoW_no (a := a) (b := b) (fun e => h2 (by rw [HL2.out]; exact e.1.2.1)))
        have H1 := Lib.hid h1
        have H2 := Lib.hid h2
        clear h1 h2
        go_wp2
        go_ret3
        refine ⟨none, 0, [], false, ret3_int H.out.symm, ?_, Sl.nil _ _ _ (by unfold maxLen; omega), hB4⟩
        unfold Hid; rw [HN.out]; exact ⟨rfl, rfl⟩
    · have h1' : (((l1.length : Nat) : Int) != ((a.next.length : Nat) : Int)) = true := by simp; omega
      have HN := Lib.hid (isoW_no (a := a) (b := b) (fun e => h1 (by rw [HL1.out]; exact e.1.1)))
      have H1 := Lib.hid h1
      clear h1
      go_wp2
      go_ret3
      refine ⟨none, 0, [], false, ret3_int H.out.symm, ?_, Sl.nil _ _ _ (by unfold maxLen; omega), hB4⟩
      unfold Hid; rw [HN.out]; exact ⟨rfl, rfl⟩
  · have h' : (chk a b != 0) = true := by simp [h]
    have HN := Lib.hid (isoW_err h)
    clear h
    go_enter Try.func37, Try.ntmps37
    go_wp2_with fail
    refine (HC.out).mono ?_
    rintro e w1 ⟨rfl, hb1⟩
    have hB1 : Below (w.heap.size + 2) ((w.alloc (maO a an acn ao aco)).alloc (maO b bn bcn bo bco)) w1 := hb1.mono (by simp)
    have hBf := h0.trans (hB1.mono (by omega))
    clear HC hb1
    go_wp2
    go_ret3
    refine ⟨none, 0, [], false, rfl, ?_, Sl.nil _ _ _ (by unfold maxLen; omega), hBf⟩
    unfold Hid; rw [HN.out]; exact ⟨rfl, rfl⟩

set_option maxRecDepth 100000 in
set_option maxHeartbeats 8000000 in
theorem isoR_any (ha : Ma M w an acn ao aco a) (hb : Ma M w bn bcn bo bco b) :
    Calls Try.prog 38 #[maV a an acn ao aco, maV b bn bcn bo bco] w fun e w' => ∃ ad c l f, e = .returned (.tuple #[.slice ad l.length c, .bool f, .int .i64 (chk a b)]) ∧ Hid (ansW (isoW a b) l f) ∧ Sl (fun k => k < w.heap.size) w' ad c l ∧ Below w.heap.size w w' := by
  have HA := Lib.hid (ha.ext ((Ext.alloc M w (maO a an acn ao aco)).trans (Ext.alloc M _ (maO b bn bcn bo bco))))
  have HB := Lib.hid (hb.ext ((Ext.alloc M w (maO a an acn ao aco)).trans (Ext.alloc M _ (maO b bn bcn bo bco))))
  have h0 : Below w.heap.size w ((w.alloc (maO a an acn ao aco)).alloc (maO b bn bcn bo bco)) := ((Below.refl _ _).alloc (Nat.le_refl _) _).alloc (by simp) _
  have hCa : C4 ((w.alloc (maO a an acn ao aco)).alloc (maO b bn bcn bo bco)) w.heap.size an acn ao aco a := (c4_new w).below (B := w.heap.size + 1) ((Below.refl _ _).alloc (by simp) _) (by omega)
  have hCb : C4 ((w.alloc (maO a an acn ao aco)).alloc (maO b bn bcn bo bco)) (w.heap.size + 1) bn bcn bo bco b := by simpa using c4_new (m := b) (an := bn) (cn := bcn) (ao := bo) (co := bco) (w.alloc (maO a an acn ao aco))
  have HC := Lib.hid (checkR_any HA.out HB.out)
  clear ha hb
  by_cases h : chk a b = 0
  · have h' : (chk a b != 0) = false := by simp [h]
    have H := Lib.hid h
    have HZ := Lib.hid (chk_zero h)
    clear h
    have OA := Lib.hid (a.ok_of_err HZ.out.1)
    have OB := Lib.hid (b.ok_of_err HZ.out.2.1)
    have n1 := OA.out.n1
    have n1' := OB.out.n1
    have i0 := OA.out.i0
    have i1 := OA.out.i1
    obtain ⟨xb, xo, yb, yo, rfl, rfl⟩ := HA.out.addr OA.out
    obtain ⟨ub, uo, vb, vo, rfl, rfl⟩ := HB.out.addr OB.out
    go_enter Try.func38, Try.ntmps38
    go_wp2_with fail
    refine (HC.out).mono ?_
    rintro e w1 ⟨rfl, hb1⟩
    have hz1 : w.heap.size + 2 ≤ w1.heap.size := by have := hb1.size; simpa using this
    have hB1 : Below (w.heap.size + 2) ((w.alloc (maO a (some ⟨xb, xo, none⟩) acn (some ⟨yb, yo, none⟩) aco)).alloc (maO b (some ⟨ub, uo, none⟩) bcn (some ⟨vb, vo, none⟩) bco)) w1 := hb1.mono (by simp)
    have hA1 := (HA.out.below (by simpa using hb1)).ext (Ext.drew M w1)
    have hM1 := (HB.out.below (by simpa using hb1)).ext (Ext.drew M w1)
    have hSS : C4 w1.drew w.heap.size (some ⟨xb, xo, none⟩) acn (some ⟨yb, yo, none⟩) aco a ∧ C4 w1.drew (w.heap.size + 1) (some ⟨ub, uo, none⟩) bcn (some ⟨vb, vo, none⟩) bco b := ⟨(hCa.below hB1 (by omega)).drew, (hCb.below hB1 (by omega)).drew⟩
    have hB2 := (h0.trans (hB1.mono (by omega))).drew
    have hz2 : w.heap.size + 2 ≤ w1.drew.heap.size := hz1
    clear hb1 HC hB1 hCa hCb
    go_wp2
    refine wp_region_L (fun w' => C4 w' w.heap.size (some ⟨xb, xo, none⟩) acn (some ⟨yb, yo, none⟩) aco a ∧ C4 w' (w.heap.size + 1) (some ⟨ub, uo, none⟩) bcn (some ⟨vb, vo, none⟩) bco b) [0, 2] (by kernel_rfl) ?_
    generalize w1.drew = w2 at *
    refine wpAnyL_take (i := 0) (v := ?v3) rfl (by kernel_rfl) (by kernel_rfl) (by kernel_rfl) (by kernel_rfl) (fun _ _ _ h => h) (Or.inl ⟨by rfl, ?y3⟩) (by assumption) ?r3
    case y3 => (intro w' hSw; (try dsimp only at hSw); go_simp; try with_reducible rfl)
    try simp only [Act.put, List.setIfInBounds_toArray, List.set_cons_zero, List.set_cons_succ]
    refine wpAnyL_take (i := 2) (v := ?v4) rfl (by kernel_rfl) (by kernel_rfl) (by kernel_rfl) (by kernel_rfl) (fun _ _ _ h => h) (Or.inl ⟨by rfl, ?y4⟩) (by assumption) ?r4
    case y4 => (intro w' hSw; (try dsimp only at hSw); go_simp; try with_reducible rfl)
    try simp only [Act.put, List.setIfInBounds_toArray, List.set_cons_zero, List.set_cons_succ]
    have HR := Lib.hid (reachR_any hA1)
    refine wpAnyL_one (i := 1) (by kernel_rfl) rfl rfl (fun K hK => ?_)
    go_simp
    refine (HR.out).mono ?_
    rintro e w3 ⟨a1, c1, l1, rfl, hl1, hs1, hb3⟩
    have hS3 : C4 w3 w.heap.size (some ⟨xb, xo, none⟩) acn (some ⟨yb, yo, none⟩) aco a ∧ C4 w3 (w.heap.size + 1) (some ⟨ub, uo, none⟩) bcn (some ⟨vb, vo, none⟩) bco b := ⟨hSS.1.below hb3 (by omega), hSS.2.below hb3 (by omega)⟩
    have hz3 := hb3.size
    refine hK _ _ (fun _ => hS3) ?_
    clear hK K HR hSS
    have HR := Lib.hid (reachR_any (hM1.below hb3))
    have hA3 := hA1.below hb3
    have hM3 := hM1.below hb3
    have hB3 := hB2.trans (hb3.mono (by omega))
    clear hA1 hM1 hB2 hb3
    refine wpAnyL_one (i := 3) (by kernel_rfl) rfl rfl (fun K hK => ?_)
    go_simp
    refine (HR.out).mono ?_
    rintro e w4 ⟨a2, c2, l2, rfl, hl2, hs2, hb4⟩
    have hS4 : C4 w4 w.heap.size (some ⟨xb, xo, none⟩) acn (some ⟨yb, yo, none⟩) aco a ∧ C4 w4 (w.heap.size + 1) (some ⟨ub, uo, none⟩) bcn (some ⟨vb, vo, none⟩) bco b := ⟨hS3.1.below hb4 (by omega), hS3.2.below hb4 (by omega)⟩
    have hz4 : w.heap.size + 2 ≤ w4.heap.size := by have := hb4.size; omega
    refine hK _ _ (fun _ => hS4) ?_
    clear hK K HR hS3
    have hA4 := Lib.hid (hA3.below hb4)
    have hM4 := Lib.hid (hM3.below hb4)
    have hB4 := hB3.trans (hb4.mono (by omega))
    have hs14 := (hs1.below hb4).anti (M' := fun _ => False) (fun _ _ h => h.elim)
    have hs24 := hs2.anti (M' := fun _ => False) (fun _ _ h => h.elim)
    clear hA3 hM3 hB3 hb4 hs1 hs2
    refine wpAnyL_one (i := 4) (by kernel_rfl) rfl rfl (fun K hK => ?_)
    go_simp
    refine hK _ _ (fun _ => hS4) ?_
    clear hK K
    refine wpAnyL_one (i := 5) (by kernel_rfl) rfl rfl (fun K hK => ?_)
    go_simp
    refine hK _ _ (fun _ => hS4) ?_
    clear hK K
    refine wpAnyL_done (by kernel_rfl) ?_ _
    have HL1 : Hid (l1 = a.reach) := by have := hl1.out; unfold Mach.reachOf at this; rwa [if_pos HZ.out.1] at this
    have HL2 : Hid (l2 = b.reach) := by have := hl2.out; unfold Mach.reachOf at this; rwa [if_pos HZ.out.2.1] at this
    have hl1n : l1.length ≤ 128 := by rw [HL1.out]; have := Mach.reach_le OA.out; omega
    have hl2n : l2.length ≤ 128 := by rw [HL2.out]; have := Mach.reach_le OB.out; omega
    clear hl1 hl2
    have hS4k := Lib.hid hS4
    obtain ⟨⟨j0, j1, j2, j3⟩, ⟨k0, k1, k2, k3⟩⟩ := hS4
    by_cases h1 : l1.length = a.next.length
    · have h1' : (((l1.length : Nat) : Int) != ((a.next.length : Nat) : Int)) = false := by simp [h1]
      by_cases h2 : l2.length = b.next.length
      · have h2' : (((l2.length : Nat) : Int) != ((b.next.length : Nat) : Int)) = false := by simp [h2]
        by_cases h3 : l1.length = l2.length
        · have h3' : (((l1.length : Nat) : Int) != ((l2.length : Nat) : Int)) = false := by simp [h3]
          have H1 := Lib.hid h1
          have H2 := Lib.hid h2
          have H3 := Lib.hid h3
          clear h1 h2 h3
          go_wp2_with (at_make; refine wpList_mk_i (B := w4.heap.size) (n := l1.length) rfl rfl Try.underlying27 info_int rfl (by omega) (Nat.le_refl _) ?_)
          intro g c num w5 hnum hO5 hb5 hg
          have hnl : Hid (num.length = l1.length) := by unfold Hid; rw [hnum.out, List.length_replicate]
          have hz5 := hb5.size
          have hnl1 : num.length ≤ l1.length := Nat.le_of_eq hnl.out
          have hnl2 : l1.length ≤ num.length := Nat.le_of_eq hnl.out.symm
          clear j0 j1 j2 j3 k0 k1 k2 k3
          go_wp2
          have hnm0 : Hid (num = fillL l1 l2 0) := hnum.out
          go_loopw [11] (fun i wr => ∃ (k : Nat) (nm : List Int), k ≤ l1.length ∧ i = .int .i64 k ∧ Hid (nm = fillL l1 l2 k) ∧ Hid (num.length = nm.length) ∧ Ow w4.heap.size (fun k => w4.heap.size ≤ k) wr 3 (.slice (some ⟨g, 0, none⟩) num.length c) nm ∧ Below w4.heap.size w4 wr) (fun i _ => l1.length - (intOf i).toNat)
          case atStart => exact ⟨0, num, by omega, rfl, hnm0, rfl, hO5, hb5⟩
          case round =>
            clear hO5 hb5 hnum hnm0
            obtain ⟨k, nm, hk, rfl, hnm, hnn, hO, hB⟩ := hrel
            obtain ⟨w6, rfl⟩ : ∃ w6 : World, w6 = wr := ⟨_, rfl⟩
            by_cases hlt : k < l1.length
            · have hlt2 : k < l2.length := by rw [← H3.out]; exact hlt
              obtain ⟨b1, o1, x0, rfl, hxc, hx0, -⟩ := (hs14.below hB).at_int hlt
              obtain ⟨b2, o2, y0, rfl, hyc, hy0, hy64⟩ := (hs24.below hB).at_int hlt2
              have hxr := (Mach.reach_props OA.out).2.1 x0 (by rw [← HL1.out]; exact List.mem_of_getElem? hx0.out)
              obtain ⟨x, rfl⟩ := Int.eq_ofNat_of_zero_le hxr.1
              have hxn : x < num.length := by have := H1.out; omega
              have hxm : x < nm.length := by have := hnn.out; omega
              obtain ⟨g', z, hg', hzc, hzf, -, -⟩ := hO.at_int' hnn.out hxm
              obtain rfl : g = g' := by simpa using hg'
              have hO2 := hO.set_int hnn.out (show w4.heap.size ≤ g by omega) (x := y0) x hy64.out
              have hB2 := hB.setCell (p := ⟨g, x, none⟩) (show w4.heap.size ≤ g by omega) (.int .i64 y0)
              have hnm2 : Hid (nm.set x y0 = fillL l1 l2 (k + 1)) := by
                unfold Hid; rw [hnm.out]; simp only [fillL]; rw [getD_of_some hx0.out, getD_of_some hy0.out, Int.toNat_natCast]
              have hOd := hO.drew
              have hBd := hB.drew
              have hOd2 := hOd.set_int hnn.out (show w4.heap.size ≤ g by omega) (x := y0) x hy64.out
              have hBd2 := hBd.setCell (p := ⟨g, x, none⟩) (show w4.heap.size ≤ g by omega) (.int .i64 y0)
              have hzcd : w6.drew.cell? ⟨g, x, none⟩ = some (.int .i64 z) := by simpa using hzc
              have hzfd : w6.drew.frozen? ⟨g, x, none⟩ = false := by simpa using hzf
              have hSS : w6.drew.cell? ⟨b1, o1 + k, none⟩ = some (.int .i64 (x : Int)) ∧ w6.drew.cell? ⟨b2, o2 + k, none⟩ = some (.int .i64 y0) := ⟨by simpa using hxc, by simpa using hyc⟩
              clear hO2 hB2 hxc hyc hzc hzf
              go_wp2
              refine wp_region_L (fun w' => w'.cell? ⟨b1, o1 + k, none⟩ = some (.int .i64 (x : Int)) ∧ w'.cell? ⟨b2, o2 + k, none⟩ = some (.int .i64 y0)) [0, 1, 2, 3, 4, 5, 6, 7, 8] (by kernel_rfl) ?_
              clear hO hB hOd hBd
              generalize w6.drew = w7 at *
              refine wpAnyL_take (i := 0) (v := ?v5) rfl (by kernel_rfl) (by kernel_rfl) (by kernel_rfl) (by kernel_rfl) (fun _ _ _ h => h) (Or.inl ⟨by rfl, ?y5⟩) (by assumption) ?r5
              case y5 => (intro w' hSw; (try dsimp only at hSw); go_simp; try with_reducible rfl)
              try simp only [Act.put, List.setIfInBounds_toArray, List.set_cons_zero, List.set_cons_succ]
              refine wpAnyL_take (i := 1) (v := ?v6) rfl (by kernel_rfl) (by kernel_rfl) (by kernel_rfl) (by kernel_rfl) (fun _ _ _ h => h) (Or.inl ⟨by rfl, ?y6⟩) (by assumption) ?r6
              case y6 => (intro w' hSw; (try dsimp only at hSw); go_simp; try with_reducible rfl)
              try simp only [Act.put, List.setIfInBounds_toArray, List.set_cons_zero, List.set_cons_succ]
              refine wpAnyL_take (i := 2) (v := ?v7) rfl (by kernel_rfl) (by kernel_rfl) (by kernel_rfl) (by kernel_rfl) (fun _ _ _ h => h) (Or.inl ⟨by rfl, ?y7⟩) (by assumption) ?r7
              case y7 => (intro w' hSw; (try dsimp only at hSw); go_simp; try with_reducible rfl)
              try simp only [Act.put, List.setIfInBounds_toArray, List.set_cons_zero, List.set_cons_succ]
              refine wpAnyL_take (i := 3) (v := ?v8) rfl (by kernel_rfl) (by kernel_rfl) (by kernel_rfl) (by kernel_rfl) (fun _ _ _ h => h) (Or.inl ⟨by rfl, ?y8⟩) (by assumption) ?r8
              case y8 => (intro w' hSw; (try dsimp only at hSw); go_simp; try with_reducible rfl)
              try simp only [Act.put, List.setIfInBounds_toArray, List.set_cons_zero, List.set_cons_succ]
              refine wpAnyL_take (i := 4) (v := ?v9) rfl (by kernel_rfl) (by kernel_rfl) (by kernel_rfl) (by kernel_rfl) (fun _ _ _ h => h) (Or.inl ⟨by rfl, ?y9⟩) (by assumption) ?r9
              case y9 => (intro w' hSw; (try dsimp only at hSw); go_simp; try with_reducible rfl)
              try simp only [Act.put, List.setIfInBounds_toArray, List.set_cons_zero, List.set_cons_succ]
              refine wpAnyL_take (i := 5) (v := ?v10) rfl (by kernel_rfl) (by kernel_rfl) (by kernel_rfl) (by kernel_rfl) (fun _ _ _ h => h) (Or.inl ⟨by rfl, ?y10⟩) (by assumption) ?r10
              case y10 => (intro w' hSw; (try dsimp only at hSw); go_simp; try with_reducible rfl)
              try simp only [Act.put, List.setIfInBounds_toArray, List.set_cons_zero, List.set_cons_succ]
              refine wpAnyL_take (i := 6) (v := ?v11) rfl (by kernel_rfl) (by kernel_rfl) (by kernel_rfl) (by kernel_rfl) (fun _ _ _ h => h) (Or.inl ⟨by rfl, ?y11⟩) (by assumption) ?r11
              case y11 => (intro w' hSw; (try dsimp only at hSw); go_simp; try with_reducible rfl)
              try simp only [Act.put, List.setIfInBounds_toArray, List.set_cons_zero, List.set_cons_succ]
              refine wpAnyL_take (i := 7) (v := ?v12) rfl (by kernel_rfl) (by kernel_rfl) (by kernel_rfl) (by kernel_rfl) (fun _ _ _ h => h) (Or.inl ⟨by rfl, ?y12⟩) (by assumption) ?r12
              case y12 => (intro w' hSw; (try dsimp only at hSw); go_simp; try with_reducible rfl)
              try simp only [Act.put, List.setIfInBounds_toArray, List.set_cons_zero, List.set_cons_succ]
              refine wpAnyL_take (i := 8) (v := ?v13) rfl (by kernel_rfl) (by kernel_rfl) (by kernel_rfl) (by kernel_rfl) (fun _ _ _ h => h) (Or.inl ⟨by rfl, ?y13⟩) (by assumption) ?r13
              case y13 => (intro w' hSw; (try dsimp only at hSw); go_simp; try with_reducible rfl)
              try simp only [Act.put, List.setIfInBounds_toArray, List.set_cons_zero, List.set_cons_succ]
              refine wpAnyL_late (i := 9) (by kernel_rfl) (by kernel_rfl) rfl rfl (fun K hK => ?_)
              go_simp
              refine hK _ _ ?_
              clear hK K
              refine wpAnyL_late (i := 10) (by kernel_rfl) (by kernel_rfl) rfl rfl (fun K hK => ?_)
              go_simp
              refine hK _ _ ?_
              clear hK K
              refine wpAnyL_done (by kernel_rfl) ?_ _
              go_wp2
              go_roundw
              case rel => exact ⟨k + 1, _, by omega, by go_num, hnm2, by unfold Hid; rw [List.length_set]; exact hnn.out, hOd2, hBd2⟩
              case measure => simp [intOf]; omega
            · have HT : Hid (nm = isoT a b) := by unfold Hid isoT; rw [hnm.out, HL1.out, HL2.out, show k = a.reach.length by rw [← HL1.out]; omega]
              have hrange : Hid (∀ z ∈ nm, 0 ≤ z ∧ z < b.next.length) := by
                unfold Hid; rw [hnm.out]
                exact fillL_range OB.out.n0 (by rw [HL2.out]; exact (Mach.reach_props OB.out).2.1) H3.out k hk
              have hnmn : Hid (nm.length = a.next.length) := by unfold Hid; rw [← hnn.out, hnl.out, H1.out]
              have HA6 := Lib.hid (hA4.out.below hB)
              have HB6 := Lib.hid (hM4.out.below hB)
              clear hnm
              go_wp2
              have HD0 : Hid (∃ n, w6 = w6.drewN n) := ⟨0, rfl⟩
              have HG0 : Hid (∀ s, s < 0 → ∀ i, i < a.inputs.toNat → isoAt a b nm s i) := fun s hs => absurd hs (Nat.not_lt_zero s)
              go_loopw [12] (fun i wr => ∃ k : Nat, k ≤ num.length ∧ i = .int .i64 k ∧ Hid (∀ s, s < k → ∀ i, i < a.inputs.toNat → isoAt a b nm s i) ∧ Hid (∃ n, wr = w6.drewN n)) (fun i _ => num.length - (intOf i).toNat)
              case atStart => exact ⟨0, by omega, rfl, HG0, HD0⟩
              case round =>
                clear HD0 HG0
                obtain ⟨s, hsn, rfl, hgood, hD⟩ := hrel
                obtain ⟨w7, rfl⟩ : ∃ w7 : World, w7 = wr := ⟨_, rfl⟩
                have hO7 : Ow w4.heap.size (fun k => w4.heap.size ≤ k) w7 3 (.slice (some ⟨g, 0, none⟩) num.length c) nm := by obtain ⟨n, e⟩ := hD.out; rw [e]; exact hO.drewN n
                have hB7 : Below w4.heap.size w4 w7 := by obtain ⟨n, e⟩ := hD.out; rw [e]; exact bl_drewN hB n
                by_cases hls : s < num.length
                · have hsm : s < nm.length := by have := hnn.out; omega
                  have hsa : s < a.next.length := by have := hnmn.out; omega
                  have hsao : s < a.out.length := by rw [OA.out.lo]; exact hsa
                  obtain ⟨g', t0, hg', htc, -, ht0, -⟩ := hO7.at_int' hnn.out hsm
                  obtain rfl : g = g' := by simpa using hg'
                  have htr := hrange.out t0 (List.mem_of_getElem? ht0.out)
                  obtain ⟨t, rfl⟩ := Int.eq_ofNat_of_zero_le htr.1
                  have htn : t < b.next.length := by omega
                  have hto : t < b.out.length := by rw [OB.out.lo]; exact htn
                  obtain ⟨⟨j0, j1, j2, j3⟩, -⟩ := (show C4 w7 w.heap.size (some ⟨xb, xo, none⟩) acn (some ⟨yb, yo, none⟩) aco a ∧ C4 w7 (w.heap.size + 1) (some ⟨ub, uo, none⟩) bcn (some ⟨vb, vo, none⟩) bco b from ⟨hS4k.out.1.below hB7 (by omega), hS4k.out.2.below hB7 (by omega)⟩)
                  go_wp2
                  have HG1 : Hid (∀ i, i < 0 → isoAt a b nm s i) := fun i hi => absurd hi (Nat.not_lt_zero i)
                  go_loopw [13] (fun i wr => ∃ j : Nat, j ≤ a.inputs.toNat ∧ i = .int .i64 j ∧ Hid (∀ i, i < j → isoAt a b nm s i) ∧ Hid (∃ n, wr = w6.drewN n)) (fun i _ => a.inputs.toNat - (intOf i).toNat)
                  case atStart => exact ⟨0, by omega, rfl, HG1, hD⟩
                  case round =>
                    clear HG1 j0 j1 j2 j3 hO7 hB7 htc
                    obtain ⟨j, hj, rfl, hrow, hD8⟩ := hrel
                    obtain ⟨w8, rfl⟩ : ∃ w8 : World, w8 = wr := ⟨_, rfl⟩
                    have hO8 : Ow w4.heap.size (fun k => w4.heap.size ≤ k) w8 3 (.slice (some ⟨g, 0, none⟩) num.length c) nm := by obtain ⟨n, e⟩ := hD8.out; rw [e]; exact hO.drewN n
                    have hB8 : Below w4.heap.size w4 w8 := by obtain ⟨n, e⟩ := hD8.out; rw [e]; exact bl_drewN hB n
                    obtain ⟨⟨j0, j1, j2, j3⟩, ⟨k0, k1, k2, k3⟩⟩ := (show C4 w8 w.heap.size (some ⟨xb, xo, none⟩) acn (some ⟨yb, yo, none⟩) aco a ∧ C4 w8 (w.heap.size + 1) (some ⟨ub, uo, none⟩) bcn (some ⟨vb, vo, none⟩) bco b from ⟨hS4k.out.1.below hB8 (by omega), hS4k.out.2.below hB8 (by omega)⟩)
                    by_cases hlj : j < a.inputs.toNat
                    · have hlj2 : j < b.inputs.toNat := by rw [← HZ.out.2.2]; exact hlj
                      have hlj3 : (j : Int) < a.inputs := by omega
                      obtain ⟨b1, o1, c1, e1, b2, o2, c2, e2, n, y, ha1, ha2, ha3, ha4, ha5, ha6, ha7, ha8, ha9, ha10, ha11, ha12, ha13⟩ := (hA4.out.below hB8).atS OA.out hsa hlj
                      obtain ⟨b3, o3, c3, e3, b4, o4, c4, e4, n', y', hb1, hb2, hb3, hb4, hb5, hb6, hb7, hb8, hb9, hb10, hb11, hb12, hb13⟩ := (hM4.out.below hB8).atS OB.out htn hlj2
                      have hnn1 : n < nm.length := by have := hnmn.out; omega
                      have hnn2 : n < num.length := by have := hnn.out; omega
                      have hnn3 : s < num.length := hls
                      obtain ⟨g', z, hg', hzc, -, hz, -⟩ := hO8.at_int' hnn.out hnn1
                      obtain rfl : g = g' := by simpa using hg'
                      obtain ⟨g', t9, hg', htc, -, ht9, -⟩ := hO8.at_int' hnn.out hsm
                      obtain rfl : g = g' := by simpa using hg'
                      obtain rfl : (t : Int) = t9 := by have h1 := ht9.out; rw [ht0.out] at h1; simpa using h1
                      have hat : Hid (isoAt a b nm s j ↔ y = y' ∧ z = (n' : Int)) := by
                        unfold Hid isoAt
                        rw [getD_of_some ht0.out, Int.toNat_natCast, ha9.out, hb9.out, ha8.out, hb8.out, Int.toNat_natCast, getD_of_some hz.out]
                      by_cases hy : y = y'
                      · have hyb : (y != y') = false := by simp [hy]
                        have HY := Lib.hid hy
                        clear hy
                        by_cases hz1 : z = (n' : Int)
                        · have hzb : (z != (n' : Int)) = false := by simp [hz1]
                          have hrow2 : Hid (∀ i, i < j + 1 → isoAt a b nm s i) := by
                            intro i hi
                            by_cases e : i = j
                            · subst e; exact hat.out.2 ⟨HY.out, hz1⟩
                            · exact hrow.out i (by omega)
                          clear hz1
                          go_wp2
                          refine wp_quiet_fast (by kernel_rfl) (by kernel_rfl) ?_
                          repeat (first | go_big_quiet_step (fail) | quiet_step (fail))
                          refine wpQuiet_nil ?_
                          intro _ hw'
                          obtain ⟨nq, hw''⟩ := hw'
                          subst hw''
                          go_wp2
                          go_roundw
                          case rel => exact ⟨j + 1, by omega, by go_num, hrow2, dr_add hD8 _⟩
                          case measure => simp [intOf]; omega
                        · have hzb : (z != (n' : Int)) = true := by simp [hz1]
                          have HN := Lib.hid (isoW_no (a := a) (b := b) (fun e => hz1 (hat.out.1 (HT.out ▸ e.2 s (by rw [← HL1.out, H1.out]; exact hsa) j hlj)).2))
                          clear hz1
                          have hBf := hB4.trans (hB8.mono (by omega))
                          go_wp2
                          refine wp_quiet_fast (by kernel_rfl) (by kernel_rfl) ?_
                          repeat (first | go_big_quiet_step (fail) | quiet_step (fail))
                          refine wpQuiet_nil ?_
                          intro _ hw'
                          obtain ⟨nq, hw''⟩ := hw'
                          subst hw''
                          go_wp2
                          go_ret3
                          refine ⟨none, 0, [], false, ret3_int H.out.symm, ?_, Sl.nil _ _ _ (by unfold maxLen; omega), bl_drewN hBf _⟩
                          unfold Hid; rw [HN.out]; exact ⟨rfl, rfl⟩
                      · have hyb : (y != y') = true := by simp [hy]
                        have HN := Lib.hid (isoW_no (a := a) (b := b) (fun e => hy (hat.out.1 (HT.out ▸ e.2 s (by rw [← HL1.out, H1.out]; exact hsa) j hlj)).1))
                        clear hy
                        have hBf := hB4.trans (hB8.mono (by omega))
                        go_wp2
                        refine wp_quiet_fast (by kernel_rfl) (by kernel_rfl) ?_
                        repeat (first | go_big_quiet_step (fail) | quiet_step (fail))
                        refine wpQuiet_nil ?_
                        intro _ hw'
                        obtain ⟨nq, hw''⟩ := hw'
                        subst hw''
                        go_wp2
                        go_ret3
                        refine ⟨none, 0, [], false, ret3_int H.out.symm, ?_, Sl.nil _ _ _ (by unfold maxLen; omega), bl_drewN hBf _⟩
                        unfold Hid; rw [HN.out]; exact ⟨rfl, rfl⟩
                    · have hlj3 : ¬ (j : Int) < a.inputs := by omega
                      have hgood2 : Hid (∀ s', s' < s + 1 → ∀ i, i < a.inputs.toNat → isoAt a b nm s' i) := by
                        intro s' hs' i hi
                        by_cases e : s' = s
                        · subst e; exact hrow.out i (by omega)
                        · exact hgood.out s' (by omega) i hi
                      go_wp2
                      go_roundw
                      case rel => exact ⟨s + 1, by omega, by go_num, hgood2, hD8⟩
                      case measure => simp [intOf]; omega
                · have HN := Lib.hid (isoW_yes (a := a) (b := b) H.out ⟨⟨by rw [← HL1.out]; exact H1.out, by rw [← HL2.out]; exact H2.out, by rw [← HL1.out, ← HL2.out]; exact H3.out⟩, fun s' hs' i hi => HT.out ▸ hgood.out s' (by rw [← HL1.out] at hs'; omega) i hi⟩)
                  have hBf := hB4.trans (hB7.mono (by omega))
                  have hSf : Sl (fun k => k < w.heap.size) w7 (some ⟨g, 0, none⟩) c nm := (ow_len hnn.out hO7).fresh (by omega)
                  go_wp2
                  go_ret3
                  refine ⟨_, c, nm, true, ret3_num hnn.out H.out.symm, ?_, hSf, hBf⟩
                  unfold Hid; rw [HN.out, HT.out]; exact ⟨rfl, rfl⟩
        · have h3' : (((l1.length : Nat) : Int) != ((l2.length : Nat) : Int)) = true := by simp; omega
          have HN := Lib.hid (isoW_no (a := a) (b := b) (fun e => h3 (by rw [HL1.out, HL2.out]; exact e.1.2.2)))
          have H1 := Lib.hid h1
          have H2 := Lib.hid h2
          have H3 := Lib.hid h3
          clear h1 h2 h3
          go_wp2
          go_ret3
          refine ⟨none, 0, [], false, ret3_int H.out.symm, ?_, Sl.nil _ _ _ (by unfold maxLen; omega), hB4⟩
          unfold Hid; rw [HN.out]; exact ⟨rfl, rfl⟩
      · have h2' : (((l2.length : Nat) : Int) != ((b.next.length : Nat) : Int)) = true := by simp; omega
        have HN := Lib.hid (isoW_no (a := a) (b := b) (fun e => h2 (by rw [HL2.out]; exact e.1.2.1)))
        have H1 := Lib.hid h1
        have H2 := Lib.hid h2
        clear h1 h2
        go_wp2
        go_ret3
        refine ⟨none, 0, [], false, ret3_int H.out.symm, ?_, Sl.nil _ _ _ (by unfold maxLen; omega), hB4⟩
        unfold Hid; rw [HN.out]; exact ⟨rfl, rfl⟩
    · have h1' : (((l1.length : Nat) : Int) != ((a.next.length : Nat) : Int)) = true := by simp; omega
      have HN := Lib.hid (isoW_no (a := a) (b := b) (fun e => h1 (by rw [HL1.out]; exact e.1.1)))
      have H1 := Lib.hid h1
      clear h1
      go_wp2
      go_ret3
      refine ⟨none, 0, [], false, ret3_int H.out.symm, ?_, Sl.nil _ _ _ (by unfold maxLen; omega), hB4⟩
      unfold Hid; rw [HN.out]; exact ⟨rfl, rfl⟩
  · have h' : (chk a b != 0) = true := by simp [h]
    have HN := Lib.hid (isoW_err h)
    clear h
    go_enter Try.func38, Try.ntmps38
    go_wp2_with fail
    refine (HC.out).mono ?_
    rintro e w1 ⟨rfl, hb1⟩
    have hB1 : Below (w.heap.size + 2) ((w.alloc (maO a an acn ao aco)).alloc (maO b bn bcn bo bco)) w1 := hb1.mono (by simp)
    have hBf := h0.trans (hB1.mono (by omega))
    clear HC hb1
    go_wp2
    go_ret3
    refine ⟨none, 0, [], false, rfl, ?_, Sl.nil _ _ _ (by unfold maxLen; omega), hBf⟩
    unfold Hid; rw [HN.out]; exact ⟨rfl, rfl⟩
end
end Go.Proofs.Ytdnmgiabgpilkaa
/- The example of chapter 9 holds. No condition. -/
namespace Go.Proofs.Ytdnmgiabgpilkaa
open Go.RowKit
section
variable {M M' : Nat → Prop} {w : World} {p q r t : Option Addr} {c d e f : Nat}
theorem ansW_some {v l : List Int} {f : Bool} (h : ansW (some v) l f) : l = v ∧ f = true := h
theorem ex9_dists (ha : Ma M w p c q d ex9A) (hb : Ma M w r e t f ex9B) : Calls Try.prog 31 #[.agg #[.int .i64 1, .int .i64 0, .slice p 2 c, .slice q 2 d], .agg #[.int .i64 1, .int .i64 0, .slice r 3 e, .slice t 3 f]] w fun e w' =>
    ∃ (a : Option Addr) (c : Nat) (l : List Int), e = .returned (.tuple #[.slice a l.length c, .bool true, .int .i64 0]) ∧ Hid (l = [0, 0, 0]) ∧ Sl (fun k => k < w.heap.size) w' a c l ∧ Below w.heap.size w w' :=
  (dist_any ha hb).mono fun e w' ⟨a, c, l, g, h1, h2, h3, h4⟩ => by
    have h5 := h2.out
    rw [ex9_dist] at h5
    obtain ⟨h6, h7⟩ := ansW_some h5
    exact ⟨a, c, l, by rw [h1, ex9_ab, h7], h6, h3, h4⟩
theorem ex9_sts (hb : Ma M w r e t f ex9B) : Calls Try.prog 35 #[.agg #[.int .i64 1, .int .i64 0, .slice r 3 e, .slice t 3 f], .int .i64 0, .int .i64 1] w fun e w' =>
    ∃ (a : Option Addr) (c : Nat) (l : List Int), e = .returned (.tuple #[.slice a l.length c, .bool true, .int .i64 0]) ∧ Hid (l = [0, 0]) ∧ Sl (fun k => k < w.heap.size) w' a c l ∧ Below w.heap.size w w' :=
  (states_any hb 0 1 (i64_small (by decide)) (i64_small (by decide))).mono fun e w' ⟨a, c, l, g, h1, h2, h3, h4⟩ => by
    have h5 := h2.out
    rw [ex9_st] at h5
    obtain ⟨h6, h7⟩ := ansW_some h5
    exact ⟨a, c, l, by rw [h1, ex9_sterr, h7], h6, h3, h4⟩
theorem ex9_up2s (ha : Ma M w p c q d ex9A) (hb : Ma M w r e t f ex9B) : Calls Try.prog 39 #[.agg #[.int .i64 1, .int .i64 0, .slice p 2 c, .slice q 2 d], .agg #[.int .i64 1, .int .i64 0, .slice r 3 e, .slice t 3 f], .int .i64 2] w fun e w' =>
    e = .returned (.tuple #[.bool true, .int .i64 0]) ∧ Below w.heap.size w w' :=
  (upto_any ha hb 2 (i64_small (by decide))).mono fun e w' ⟨g, h1, h2, h4⟩ => ⟨by rw [h1, ex9_ab, h2.out, ex9_up2], h4⟩
theorem ex9_up3s (ha : Ma M w p c q d ex9A) (hb : Ma M w r e t f ex9B) : Calls Try.prog 39 #[.agg #[.int .i64 1, .int .i64 0, .slice p 2 c, .slice q 2 d], .agg #[.int .i64 1, .int .i64 0, .slice r 3 e, .slice t 3 f], .int .i64 3] w fun e w' =>
    e = .returned (.tuple #[.bool false, .int .i64 0]) ∧ Below w.heap.size w w' :=
  (upto_any ha hb 3 (i64_small (by decide))).mono fun e w' ⟨g, h1, h2, h4⟩ => ⟨by rw [h1, ex9_ab, h2.out, ex9_up3], h4⟩
theorem ex9_isos (ha : Ma M w p c q d ex9B) (hb : Ma M w r e t f ex9C) : Calls Try.prog 37 #[.agg #[.int .i64 1, .int .i64 0, .slice p 3 c, .slice q 3 d], .agg #[.int .i64 1, .int .i64 1, .slice r 3 e, .slice t 3 f]] w fun e w' =>
    ∃ (a : Option Addr) (c : Nat) (l : List Int), e = .returned (.tuple #[.slice a l.length c, .bool true, .int .i64 0]) ∧ Hid (l = [1, 2, 0]) ∧ Sl (fun k => k < w.heap.size) w' a c l ∧ Below w.heap.size w w' :=
  (iso_any ha hb).mono fun e w' ⟨a, c, l, g, h1, h2, h3, h4⟩ => by
    have h5 := h2.out
    rw [ex9_iso] at h5
    obtain ⟨h6, h7⟩ := ansW_some h5
    exact ⟨a, c, l, by rw [h1, ex9_bc, h7], h6, h3, h4⟩
theorem ex9_sames (ha : Ma M w p c q d ex9B) (hb : Ma M w r e t f ex9C) : Calls Try.prog 33 #[.agg #[.int .i64 1, .int .i64 0, .slice p 3 c, .slice q 3 d], .agg #[.int .i64 1, .int .i64 1, .slice r 3 e, .slice t 3 f]] w fun e w' =>
    e = .returned (.tuple #[.bool true, .int .i64 0]) ∧ Below w.heap.size w w' :=
  (eqm_any ha hb).mono fun e w' ⟨g, h1, h2, h4⟩ => ⟨by rw [h1, ex9_bc, h2.out, ex9_bc, ex9_same]; rfl, h4⟩
theorem ex9_nones (ha : Ma M w p c q d ex9A) : Calls Try.prog 33 #[.agg #[.int .i64 1, .int .i64 0, .slice p 2 c, .slice q 2 d], .agg #[.int .i64 0, .int .i64 0, .slice none 0 0, .slice none 0 0]] w fun e w' =>
    ∃ g, e = .returned (.tuple #[.bool g, .int .i64 2]) ∧ Below w.heap.size w w' :=
  (eqm_any ha (nothing_ma M w)).mono fun e w' ⟨g, h1, h2, h4⟩ => ⟨g, by rw [h1, ex9_an], h4⟩
end

/-- Four cells of a block. -/
abbrev F4 (w : World) (b : Nat) (v0 v1 v2 v3 : Value) : Prop := w.cell? ⟨b, 0, none⟩ = some v0 ∧ w.cell? ⟨b, 1, none⟩ = some v1 ∧ w.cell? ⟨b, 2, none⟩ = some v2 ∧ w.cell? ⟨b, 3, none⟩ = some v3
theorem F4.below {w w' : World} {B b : Nat} {v0 v1 v2 v3 : Value} (h : F4 w b v0 v1 v2 v3) (hb : Below B w w') (hlt : b < B) : F4 w' b v0 v1 v2 v3 :=
  ⟨(hb.cell (p := ⟨b, 0, none⟩) hlt).trans h.1, (hb.cell (p := ⟨b, 1, none⟩) hlt).trans h.2.1, (hb.cell (p := ⟨b, 2, none⟩) hlt).trans h.2.2.1, (hb.cell (p := ⟨b, 3, none⟩) hlt).trans h.2.2.2⟩
theorem Ma.free {M : Nat → Prop} {w : World} {an ao : Option Addr} {cn co : Nat} {m : Mach} (h : Ma M w an cn ao co m) : Ma (fun _ => False) w an cn ao co m := h.ext (Ext.sub_only fun _ _ e => e.elim)

set_option maxRecDepth 100000 in
set_option maxHeartbeats 8000000 in
theorem ex9_any {w : World} : Calls Try.prog 30 #[] w fun e w' => e = .returned (.bool true) ∧ Below w.heap.size w w' := by
  go_enter Try.func30, Try.ntmps30
  obtain ⟨hmA, hbA, hsA, hkA⟩ := two9_base w (x1 := 1) (x2 := 0) (y1 := 0) (y2 := 0) (by decide) (by decide) (by decide) (by decide)
  go_upto_region 2 with (fail)
  obtain ⟨wA, hwA⟩ : ∃ wA, wA = two9W w 1 0 0 0 := ⟨_, rfl⟩
  have ewA : two9W w 1 0 0 0 = wA := hwA.symm
  unfold two9W at hwA
  rw [← hwA]
  rw [ewA] at hmA hbA hsA hkA
  clear hwA ewA
  have hxA : w.heap.size + 1 + 1 + 1 + 1 + 1 + 1 < wA.heap.size := by omega
  have hlA : w.heap.size ≤ wA.heap.size := by omega
  clear hsA
  generalize hp : (some (⟨w.heap.size + 1 + 1, 0, none⟩ : Addr)) = pa at *
  generalize hq : (some (⟨w.heap.size + 1 + 1 + 1 + 1 + 1, 0, none⟩ : Addr)) = qa at *
  clear hp hq
  generalize w.heap.size + 1 + 1 + 1 + 1 + 1 + 1 = A at *
  have hFA := cells4 hkA
  clear hkA
  obtain ⟨hmB, hbB, hsB, hkB⟩ := three9_base wA (st := 0) (x1 := 1) (x2 := 2) (x3 := 0) (y1 := 0) (y2 := 0) (y3 := 1) (by decide) (by decide) (by decide) (by decide) (by decide) (by decide) (by decide)
  go_upto_region 3 with (fail)
  obtain ⟨wB, hwB⟩ : ∃ wB, wB = three9W wA 0 1 2 0 0 0 1 := ⟨_, rfl⟩
  have ewB : three9W wA 0 1 2 0 0 0 1 = wB := hwB.symm
  unfold three9W at hwB
  rw [← hwB]
  rw [ewB] at hmB hbB hsB hkB
  clear hwB ewB
  have hxB : wA.heap.size + 1 + 1 + 1 + 1 + 1 + 1 + 1 + 1 < wB.heap.size := by omega
  have hlB : wA.heap.size ≤ wB.heap.size := by omega
  clear hsB
  generalize hp : (some (⟨wA.heap.size + 1 + 1 + 1, 0, none⟩ : Addr)) = pb at *
  generalize hq : (some (⟨wA.heap.size + 1 + 1 + 1 + 1 + 1 + 1 + 1, 0, none⟩ : Addr)) = qb at *
  clear hp hq
  generalize wA.heap.size + 1 + 1 + 1 + 1 + 1 + 1 + 1 + 1 = B at *
  have hFB := cells4 hkB
  clear hkB
  obtain ⟨hmC, hbC, hsC, hkC⟩ := three9_base wB (st := 1) (x1 := 1) (x2 := 2) (x3 := 0) (y1 := 1) (y2 := 0) (y3 := 0) (by decide) (by decide) (by decide) (by decide) (by decide) (by decide) (by decide)
  go_upto_region 4 with (fail)
  obtain ⟨wC, hwC⟩ : ∃ wC, wC = three9W wB 1 1 2 0 1 0 0 := ⟨_, rfl⟩
  have ewC : three9W wB 1 1 2 0 1 0 0 = wC := hwC.symm
  unfold three9W at hwC
  rw [← hwC]
  rw [ewC] at hmC hbC hsC hkC
  clear hwC ewC
  have hxC : wB.heap.size + 1 + 1 + 1 + 1 + 1 + 1 + 1 + 1 < wC.heap.size := by omega
  have hlC : wB.heap.size ≤ wC.heap.size := by omega
  clear hsC
  generalize hp : (some (⟨wB.heap.size + 1 + 1 + 1, 0, none⟩ : Addr)) = pc at *
  generalize hq : (some (⟨wB.heap.size + 1 + 1 + 1 + 1 + 1 + 1 + 1, 0, none⟩ : Addr)) = qc at *
  clear hp hq
  generalize wB.heap.size + 1 + 1 + 1 + 1 + 1 + 1 + 1 + 1 = C at *
  have hFC := cells4 hkC
  clear hkC
  have hAC : Below wA.heap.size wA wC := hbB.trans (hbC.mono hlB)
  have hW : Below w.heap.size w wC := hbA.trans (hAC.mono hlA)
  have mA : Ma (fun _ => False) wC pa 2 qa 2 ex9A := (hmA.free.below hAC)
  have mB : Ma (fun _ => False) wC pb 3 qb 3 ex9B := (hmB.free.below hbC)
  have mC : Ma (fun _ => False) wC pc 3 qc 3 ex9C := hmC.free
  have fA := F4.below hFA hAC hxA
  have fB := F4.below hFB hbC hxB
  have fC : F4 wC C _ _ _ _ := hFC
  have lA : A < wC.heap.size := by omega
  have lB : B < wC.heap.size := by omega
  have lC : C < wC.heap.size := hxC
  have lW : w.heap.size ≤ wC.heap.size := by omega
  have FA := Lib.hid fA
  have FB := Lib.hid fB
  have FC := Lib.hid fC
  have MA := Lib.hid mA
  have MB := Lib.hid mB
  have MC := Lib.hid mC
  clear hAC hbA hbB hbC hlA hlB hlC hxA hxB hxC hFA hFB hFC hmA hmB hmC mA mB mC
  obtain ⟨u0, u1, u2, u3⟩ := fA
  obtain ⟨v0, v1, v2, v3⟩ := fB
  obtain ⟨s0, s1, s2, s3⟩ := fC
  go_wp2_with fail
  refine (ex9_dists MA.out MB.out).mono ?_
  rintro e w1 ⟨a1, c1, l1, rfl, hl1, hs1, hb1⟩
  clear u0 u1 u2 u3 v0 v1 v2 v3 s0 s1 s2 s3
  have hB1 : Below wC.heap.size wC w1 := hb1
  obtain ⟨u0, u1, u2, u3⟩ := FA.out.below hB1 lA
  obtain ⟨v0, v1, v2, v3⟩ := FB.out.below hB1 lB
  obtain ⟨s0, s1, s2, s3⟩ := FC.out.below hB1 lC
  go_wp2_with fail
  refine (ex9_sts (MB.out.below hB1)).mono ?_
  rintro e w2 ⟨a2, c2, l2, rfl, hl2, hs2, hb2⟩
  clear u0 u1 u2 u3 v0 v1 v2 v3 s0 s1 s2 s3
  have hB2 : Below wC.heap.size wC w2 := hB1.trans (hb2.mono hB1.size)
  replace hs1 := hs1.below hb2
  obtain ⟨u0, u1, u2, u3⟩ := FA.out.below hB2 lA
  obtain ⟨v0, v1, v2, v3⟩ := FB.out.below hB2 lB
  obtain ⟨s0, s1, s2, s3⟩ := FC.out.below hB2 lC
  clear hb2
  go_wp2_with fail
  refine (ex9_up2s (MA.out.below hB2) (MB.out.below hB2)).mono ?_
  rintro e w3 ⟨rfl, hb3⟩
  clear u0 u1 u2 u3 v0 v1 v2 v3 s0 s1 s2 s3
  have hB3 : Below wC.heap.size wC w3 := hB2.trans (hb3.mono hB2.size)
  replace hs1 := hs1.below hb3
  replace hs2 := hs2.below hb3
  obtain ⟨u0, u1, u2, u3⟩ := FA.out.below hB3 lA
  obtain ⟨v0, v1, v2, v3⟩ := FB.out.below hB3 lB
  obtain ⟨s0, s1, s2, s3⟩ := FC.out.below hB3 lC
  clear hb3
  go_wp2_with fail
  refine (ex9_up3s (MA.out.below hB3) (MB.out.below hB3)).mono ?_
  rintro e w4 ⟨rfl, hb4⟩
  clear u0 u1 u2 u3 v0 v1 v2 v3 s0 s1 s2 s3
  have hB4 : Below wC.heap.size wC w4 := hB3.trans (hb4.mono hB3.size)
  replace hs1 := hs1.below hb4
  replace hs2 := hs2.below hb4
  obtain ⟨u0, u1, u2, u3⟩ := FA.out.below hB4 lA
  obtain ⟨v0, v1, v2, v3⟩ := FB.out.below hB4 lB
  obtain ⟨s0, s1, s2, s3⟩ := FC.out.below hB4 lC
  clear hb4
  go_wp2_with fail
  refine (ex9_isos (MB.out.below hB4) (MC.out.below hB4)).mono ?_
  rintro e w5 ⟨a5, c5, l5, rfl, hl5, hs5, hb5⟩
  clear u0 u1 u2 u3 v0 v1 v2 v3 s0 s1 s2 s3
  have hB5 : Below wC.heap.size wC w5 := hB4.trans (hb5.mono hB4.size)
  replace hs1 := hs1.below hb5
  replace hs2 := hs2.below hb5
  obtain ⟨u0, u1, u2, u3⟩ := FA.out.below hB5 lA
  obtain ⟨v0, v1, v2, v3⟩ := FB.out.below hB5 lB
  obtain ⟨s0, s1, s2, s3⟩ := FC.out.below hB5 lC
  clear hb5
  go_wp2_with fail
  refine (ex9_sames (MB.out.below hB5) (MC.out.below hB5)).mono ?_
  rintro e w6 ⟨rfl, hb6⟩
  clear u0 u1 u2 u3 v0 v1 v2 v3 s0 s1 s2 s3
  have hB6 : Below wC.heap.size wC w6 := hB5.trans (hb6.mono hB5.size)
  replace hs1 := hs1.below hb6
  replace hs2 := hs2.below hb6
  replace hs5 := hs5.below hb6
  obtain ⟨u0, u1, u2, u3⟩ := FA.out.below hB6 lA
  obtain ⟨v0, v1, v2, v3⟩ := FB.out.below hB6 lB
  obtain ⟨s0, s1, s2, s3⟩ := FC.out.below hB6 lC
  clear hb6
  go_wp2_with fail
  refine (ex9_nones (MA.out.below hB6)).mono ?_
  rintro e w7 ⟨g7, rfl, hb7⟩
  clear u0 u1 u2 u3 v0 v1 v2 v3 s0 s1 s2 s3
  have hB7 : Below wC.heap.size wC w7 := hB6.trans (hb7.mono hB6.size)
  replace hs1 := hs1.below hb7
  replace hs2 := hs2.below hb7
  replace hs5 := hs5.below hb7
  obtain ⟨u0, u1, u2, u3⟩ := FA.out.below hB7 lA
  obtain ⟨v0, v1, v2, v3⟩ := FB.out.below hB7 lB
  obtain ⟨s0, s1, s2, s3⟩ := FC.out.below hB7 lC
  clear hb7
  clear u0 u1 u2 u3 v0 v1 v2 v3 s0 s1 s2 s3
  have HE8 := Lib.hid (ex8_equal (w := w7.alloc (.cells #[.int .i64 0, .int .i64 0, .int .i64 0] 3)) (b := some ⟨w7.heap.size, 0, none⟩) (d := 3) (ys := [0, 0, 0])
    ((hs1.anti (M' := fun _ => False) (fun _ _ h => h.elim)).alloc _) (Sl.lit (heap_alloc_new _ _) rfl id (fun x hx => i64_small (by simp at hx; omega)) rfl (by unfold maxLen; omega)) hl1.out)
  go_wp2_with fail
  refine (HE8.out).mono ?_
  rintro e w8' ⟨rfl, n8, rfl⟩
  have hb8 : Below w7.heap.size w7 ((w7.alloc (.cells #[.int .i64 0, .int .i64 0, .int .i64 0] 3)).drewN n8) := ((Below.refl _ _).alloc (Nat.le_refl _) _).trans (below_drewN _ _ _)
  have hB8 : Below wC.heap.size wC ((w7.alloc (.cells #[.int .i64 0, .int .i64 0, .int .i64 0] 3)).drewN n8) := hB7.trans (hb8.mono hB7.size)
  clear HE8
  generalize ((w7.alloc (.cells #[.int .i64 0, .int .i64 0, .int .i64 0] 3)).drewN n8) = w8 at *
  replace hs2 := hs2.below hb8
  replace hs5 := hs5.below hb8
  have HE9 := Lib.hid (ex8_equal (w := w8.alloc (.cells #[.int .i64 0, .int .i64 0] 3)) (b := some ⟨w8.heap.size, 0, none⟩) (d := 2) (ys := [0, 0])
    ((hs2.anti (M' := fun _ => False) (fun _ _ h => h.elim)).alloc _) (Sl.lit (heap_alloc_new _ _) rfl id (fun x hx => i64_small (by simp at hx; omega)) rfl (by unfold maxLen; omega)) hl2.out)
  go_wp2_with fail
  refine (HE9.out).mono ?_
  rintro e w9' ⟨rfl, n9, rfl⟩
  have hb9 : Below w8.heap.size w8 ((w8.alloc (.cells #[.int .i64 0, .int .i64 0] 3)).drewN n9) := ((Below.refl _ _).alloc (Nat.le_refl _) _).trans (below_drewN _ _ _)
  have hB9 : Below wC.heap.size wC ((w8.alloc (.cells #[.int .i64 0, .int .i64 0] 3)).drewN n9) := hB8.trans (hb9.mono hB8.size)
  clear HE9
  generalize ((w8.alloc (.cells #[.int .i64 0, .int .i64 0] 3)).drewN n9) = w9 at *
  replace hs5 := hs5.below hb9
  have HE10 := Lib.hid (ex8_equal (w := w9.alloc (.cells #[.int .i64 1, .int .i64 2, .int .i64 0] 3)) (b := some ⟨w9.heap.size, 0, none⟩) (d := 3) (ys := [1, 2, 0])
    ((hs5.anti (M' := fun _ => False) (fun _ _ h => h.elim)).alloc _) (Sl.lit (heap_alloc_new _ _) rfl id (fun x hx => i64_small (by simp at hx; omega)) rfl (by unfold maxLen; omega)) hl5.out)
  go_wp2_with fail
  refine (HE10.out).mono ?_
  rintro e w10' ⟨rfl, n10, rfl⟩
  have hb10 : Below w9.heap.size w9 ((w9.alloc (.cells #[.int .i64 1, .int .i64 2, .int .i64 0] 3)).drewN n10) := ((Below.refl _ _).alloc (Nat.le_refl _) _).trans (below_drewN _ _ _)
  have hB10 : Below wC.heap.size wC ((w9.alloc (.cells #[.int .i64 1, .int .i64 2, .int .i64 0] 3)).drewN n10) := hB9.trans (hb10.mono hB9.size)
  clear HE10
  generalize ((w9.alloc (.cells #[.int .i64 1, .int .i64 2, .int .i64 0] 3)).drewN n10) = w10 at *
  have hBf := hW.trans (hB10.mono lW)
  go_wp2
  go_ret
  exact ⟨rfl, hBf⟩
end Go.Proofs.Ytdnmgiabgpilkaa
/- The law of chapter 9 on minimal machines. Condition: the two numbers fit. -/
namespace Go.Proofs.Ytdnmgiabgpilkaa
open Go.RowKit
theorem chk_swap2 {a b : Mach} (hc : chk a b = 0) : a.Ok ∧ b.Ok ∧ a.inputs = b.inputs := by
  obtain ⟨ea, eb, hi⟩ := chk_zero hc
  exact ⟨a.ok_of_err ea, b.ok_of_err eb, hi⟩
theorem dist_iff {a b : Mach} (hc : chk a b = 0) : distW a b = none ↔ Mach.Sim a b a.start b.start := by
  obtain ⟨oa, ob, hi⟩ := chk_swap2 hc
  unfold distW
  rw [if_pos hc]
  exact first_iff oa ob hi ⟨oa.s0, oa.s1⟩ ⟨ob.s0, ob.s1⟩
theorem chk_min {a b : Mach} (hc : chk a b = 0) : chk a.minF b.minF = 0 := by
  obtain ⟨oa, ob, hi⟩ := chk_swap2 hc
  exact chk_0 (a.minF.err_of_ok (Mach.minF_ok oa)) (b.minF.err_of_ok (Mach.minF_ok ob)) hi
theorem mem_full {l : List Int} {n : Nat} (hd : l.Nodup) (hr : ∀ x ∈ l, 0 ≤ x ∧ x < n) (hl : l.length = n) {s : Int} (h0 : 0 ≤ s) (h1 : s < n) : s ∈ l := by
  by_cases e : s ∈ l
  · exact e
  · exfalso
    have := nodup_le n (s :: l) (List.nodup_cons.2 ⟨e, hd⟩) (fun x hx => by
      rcases List.mem_cons.1 hx with rfl | h
      · exact ⟨h0, h1⟩
      · exact hr x h)
    simp at this; omega
theorem iso_self {x : Mach} (ok : x.Ok) (h : x.reach.length = x.next.length) : isoOk x x := by
  obtain ⟨hnd, hr, -⟩ := Mach.reach_props ok
  have hid : ∀ s : Nat, s < x.next.length → (isoT x x).getD s 0 = (s : Int) := by
    intro s hs
    have hm := mem_full hnd hr h (s := (s : Int)) (by omega) (by omega)
    obtain ⟨j, hj, e⟩ := List.getElem_of_mem hm
    have := fillL_get (y := x.reach) hnd (fun z hz => by rw [h]; exact hr z hz) x.reach.length (Nat.le_refl _) j hj hj
    rw [e, Int.toNat_natCast, List.getD_eq_getElem?_getD (l := x.reach), List.getElem?_eq_getElem hj, e] at this
    exact this
  refine ⟨⟨h, h, rfl⟩, fun s hs i hi => ?_⟩
  rw [h] at hs
  have hn := ok.nx s i hs hi
  unfold isoAt
  rw [hid s hs, Int.toNat_natCast, hid _ (by omega)]
  exact ⟨rfl, by omega⟩
/-- Minimal machines are isomorphic just if they are the same. -/
theorem iso_min {a b : Mach} (hc : chk a b = 0) : isoOk a.minF b.minF ↔ a.minF = b.minF := by
  obtain ⟨oa, ob, hi⟩ := chk_swap2 hc
  constructor
  · intro h
    have h1 := iso_equal (chk_min hc) h
    have h2 := (dist_iff (chk_min hc)).1 h1
    have h3 := Mach.minF_cor (Mach.minF_ok oa) (Mach.minF_ok ob) hi h2
    rwa [Mach.minF_minF oa, Mach.minF_minF ob] at h3
  · intro h
    rw [← h]
    exact iso_self (Mach.minF_ok oa) (Mach.minF_reach oa)
theorem st_some {m : Mach} (ok : m.Ok) {s t : Nat} (hs : s < m.next.length) (ht : t < m.next.length) : stErr m s t = 0 ∧ (stW m s t).isSome = !decide (m.cl s = m.cl t) := by
  have h : stErr m s t = 0 := by
    unfold stErr
    rw [if_neg (by simp [m.err_of_ok ok]), if_neg (by omega)]
  refine ⟨h, ?_⟩
  have hi := first_iff ok ok rfl (s := (s : Int)) (t := (t : Int)) ⟨by omega, by omega⟩ ⟨by omega, by omega⟩
  have hc := Mach.sim_iff ok (s := (s : Int)) (t := (t : Int)) (by omega) (by omega) (by omega) (by omega)
  unfold stW
  rw [if_pos h]
  cases e : firstW m m s t with
  | none =>
    have h1 : m.cl s = m.cl t := hc.2 (hi.1 e)
    simp [h1]
  | some v =>
    have h1 : ¬ m.cl s = m.cl t := fun h2 => by have := hi.2 (hc.1 h2); rw [e] at this; cases this
    simp [h1]
theorem classes_at {m : Mach} (ok : m.Ok) {l : List Int} (hl : l = m.partOf 128) {s : Nat} {x : Int} (hx : l[s]? = some x) : m.cl s = x := by
  have n1 := ok.n1
  have e : m.partOf 128 = m.part m.next.length := by
    unfold Mach.partOf
    rw [if_pos (m.err_of_ok ok), show min (128 : Int).toNat m.next.length = m.next.length from by omega]
  unfold Mach.cl
  rw [← e, ← hl, Int.toNat_natCast]
  exact getD_of_some hx
theorem Ma.off9 {M : Nat → Prop} {w : World} {an ao : Option Addr} {cn co : Nat} {m : Mach} (h : Ma M w an cn ao co m) : Ma (fun _ => False) w an cn ao co m := h.ext (Ext.sub_only fun _ _ h => h.elim)
theorem same_b {M : Nat → Prop} {w : World} {an ao an' ao' : Option Addr} {cn co cn' co' : Nat} {m m' : Mach} {v : Bool} (hm : Ma M w an cn ao co m) (hm' : Ma M w an' cn' ao' co' m') (h : decide (m = m') = v) :
    Calls Try.prog 47 #[maV m an cn ao co, maV m' an' cn' ao' co'] w fun e w' => e = .returned (.bool v) ∧ Below w.heap.size w w' :=
  (same_any hm hm').mono fun e w' h2 => by rw [h] at h2; exact h2
theorem mod_nat (x n : Nat) : (x : Int).tmod (n : Int) = ((x % n : Nat) : Int) := by
  rw [Int.tmod_eq_emod_of_nonneg (by omega)]
  exact (Int.natCast_emod _ _).symm
/-- The object that boxes the two numbers. -/
abbrev atO (x y : Int) : Obj := .cells #[.int .u8 x, .int .u8 y] 73
section
variable {M : Nat → Prop} {w : World} {an ao bn bo : Option Addr} {acn aco bcn bco : Nat} {a b : Mach}

set_option maxRecDepth 100000 in
set_option maxHeartbeats 8000000 in
theorem mineq_main (ha : Ma M w an acn ao aco a) (hb : Ma M w bn bcn bo bco b) (x y : Nat) (hx : x < 256) (hy : y < 256) (hga : a.great = false) (hgb : b.great = false) (hc : chk a b = 0) :
    Calls Try.prog 15 #[maV a an acn ao aco, maV b bn bcn bo bco, .agg #[.int .u8 x, .int .u8 y]] w fun e w' => e = .returned (.bool true) ∧ Below w.heap.size w w' := by
  have hla := ha.next.le
  have HA := Lib.hid ha.off9
  have HB := Lib.hid hb.off9
  obtain ⟨oa, ob, hi⟩ := chk_swap2 hc
  have OA := Lib.hid oa
  have OB := Lib.hid ob
  have HC := Lib.hid hc
  have n0 := oa.n0
  have n1 := oa.n1
  have hea : (a.err != 0) = false := by simp [a.err_of_ok oa]
  have heb : (b.err != 0) = false := by simp [b.err_of_ok ob]
  have hec : (chk a b != 0) = false := by simp [hc]
  have hne : ¬ a.next = [] := fun e => by rw [e] at n0; simp at n0
  have hB0 : Below w.heap.size w (((w.alloc (maO a an acn ao aco)).alloc (maO b bn bcn bo bco)).alloc (atO x y)) := (((Below.refl _ _).alloc (Nat.le_refl _) _).alloc (by simp) _).alloc (by simp; omega) _
  have h4a : C4 (((w.alloc (maO a an acn ao aco)).alloc (maO b bn bcn bo bco)).alloc (atO x y)) w.heap.size an acn ao aco a := (c4_new w).below (B := w.heap.size + 1) (((Below.refl _ _).alloc (by simp) _).alloc (by simp) _) (by omega)
  have h4b : C4 (((w.alloc (maO a an acn ao aco)).alloc (maO b bn bcn bo bco)).alloc (atO x y)) (w.heap.size + 1) bn bcn bo bco b := by
    have h := c4_new (m := b) (an := bn) (cn := bcn) (ao := bo) (co := bco) (w.alloc (maO a an acn ao aco))
    have h2 := h.below (B := w.heap.size + 2) ((Below.refl _ _).alloc (by simp) (atO x y)) (by simp)
    simpa using h2
  have hat : (((w.alloc (maO a an acn ao aco)).alloc (maO b bn bcn bo bco)).alloc (atO x y)).cell? ⟨w.heap.size + 2, 0, none⟩ = some (.int .u8 (x : Int)) ∧ (((w.alloc (maO a an acn ao aco)).alloc (maO b bn bcn bo bco)).alloc (atO x y)).cell? ⟨w.heap.size + 2, 1, none⟩ = some (.int .u8 (y : Int)) := by
    have h := heap_alloc_new ((w.alloc (maO a an acn ao aco)).alloc (maO b bn bcn bo bco)) (atO x y)
    have e : ((w.alloc (maO a an acn ao aco)).alloc (maO b bn bcn bo bco)).heap.size = w.heap.size + 2 := by simp
    rw [e] at h
    refine ⟨?_, ?_⟩ <;> rw [cell_of_row _ _ _ _ _ _ h] <;> rfl
  have hz0 : w.heap.size + 3 ≤ (((w.alloc (maO a an acn ao aco)).alloc (maO b bn bcn bo bco)).alloc (atO x y)).heap.size := by simp
  have HW := Lib.hid hat
  clear ha hb oa ob hi hc hat
  have HG := Lib.hid (great_any (HA.out.below hB0))
  go_enter Try.func15, Try.ntmps15
  go_wp2_with fail
  refine (HG.out).mono ?_
  rintro e w1 ⟨rfl, hb1⟩
  rw [hga]
  generalize ((w.alloc (maO a an acn ao aco)).alloc (maO b bn bcn bo bco)).alloc (atO x y) = v0 at *
  have hB1 := hB0.trans (hb1.mono (by omega))
  have h4a1 := h4a.below hb1 (by omega)
  have h4b1 := h4b.below hb1 (by omega)
  have HW := Lib.hid (And.intro ((hb1.cell (p := ⟨w.heap.size + 2, 0, none⟩) (by simp; omega)).trans HW.out.1) ((hb1.cell (p := ⟨w.heap.size + 2, 1, none⟩) (by simp; omega)).trans HW.out.2))
  have hz1 : w.heap.size + 3 ≤ w1.heap.size := by have := hb1.size; omega
  clear hb1 HG hB0 h4a h4b hz0 hga
  have HG := Lib.hid (great_any (HB.out.below hB1))
  go_wp2_with fail
  refine (HG.out).mono ?_
  rintro e w2 ⟨rfl, hb2⟩
  rw [hgb]
  have hB2 := hB1.trans (hb2.mono (by omega))
  have h4a2 := h4a1.below hb2 (by omega)
  have h4b2 := h4b1.below hb2 (by omega)
  have HW := Lib.hid (And.intro ((hb2.cell (p := ⟨w.heap.size + 2, 0, none⟩) (by simp; omega)).trans HW.out.1) ((hb2.cell (p := ⟨w.heap.size + 2, 1, none⟩) (by simp; omega)).trans HW.out.2))
  have hz2 : w.heap.size + 3 ≤ w2.heap.size := by have := hb2.size; omega
  clear hb2 HG hB1 h4a1 h4b1 hz1 hgb
  have HG := Lib.hid (checkR_any (HA.out.below hB2) (HB.out.below hB2))
  go_wp2_with fail
  refine (HG.out).mono ?_
  rintro e w3 ⟨rfl, hb3⟩
  have hB3 := hB2.trans (hb3.mono (by omega))
  have h4a3 := h4a2.below hb3 (by omega)
  have h4b3 := h4b2.below hb3 (by omega)
  have HW := Lib.hid (And.intro ((hb3.cell (p := ⟨w.heap.size + 2, 0, none⟩) (by simp; omega)).trans HW.out.1) ((hb3.cell (p := ⟨w.heap.size + 2, 1, none⟩) (by simp; omega)).trans HW.out.2))
  have hz3 : w.heap.size + 3 ≤ w3.heap.size := by have := hb3.size; omega
  clear hb3 HG hB2 h4a2 h4b2 hz2
  have HP := Lib.hid (min_any (HA.out.below hB3))
  go_wp2_with fail
  refine (HP.out).mono ?_
  rintro e w4 ⟨tn, tcn, tq, tco, t, rfl, ht, hmt, hb4⟩
  have ht1 : t = a.minF := by rw [ht.out, Mach.minOf_eq (a.err_of_ok OA.out)]
  have HT := Lib.hid ht1
  have hb4A := ((Below.refl _ _).trans hb4).alloc (by have := hb4.size; omega) (maO t tn tcn tq tco)
  have hB4 := hB3.trans (hb4A.mono (by omega))
  have h4a4 := h4a3.below hb4A (by omega)
  have h4b4 := h4b3.below hb4A (by omega)
  have h4t4 := c4_new (m := t) (an := tn) (cn := tcn) (ao := tq) (co := tco) w4
  have HW := Lib.hid (And.intro ((hb4A.cell (p := ⟨w.heap.size + 2, 0, none⟩) (by simp; omega)).trans HW.out.1) ((hb4A.cell (p := ⟨w.heap.size + 2, 1, none⟩) (by simp; omega)).trans HW.out.2))
  have HMT := Lib.hid (hmt.off9.ext (Ext.alloc _ w4 (maO t tn tcn tq tco)))
  have hz4 : w.heap.size + 3 ≤ w4.heap.size := by have := hb4.size; omega
  clear hb4 HP hB3 h4a3 h4b3 hb4A hmt ht ht1 hz3
  have HP := Lib.hid (min_any (HB.out.below hB4))
  go_wp2_with fail
  refine (HP.out).mono ?_
  rintro e w5 ⟨un, ucn, uo, uco, u, rfl, hu, hmu, hb5⟩
  have hu1 : u = b.minF := by rw [hu.out, Mach.minOf_eq (b.err_of_ok OB.out)]
  have HU := Lib.hid hu1
  have hz5 : w4.heap.size + 1 ≤ w5.heap.size := by have := hb5.size; simpa using this
  have hb5A := ((Below.refl _ _).trans hb5).alloc (by simp; omega) (maO u un ucn uo uco)
  have hB5 := hB4.trans (hb5A.mono (by simp; omega))
  have h4a5 := h4a4.below hb5A (by simp; omega)
  have h4b5 := h4b4.below hb5A (by simp; omega)
  have h4t5 := h4t4.below hb5A (by simp)
  have h4u5 := c4_new (m := u) (an := un) (cn := ucn) (ao := uo) (co := uco) w5
  have HW := Lib.hid (And.intro ((hb5A.cell (p := ⟨w.heap.size + 2, 0, none⟩) (by simp; omega)).trans HW.out.1) ((hb5A.cell (p := ⟨w.heap.size + 2, 1, none⟩) (by simp; omega)).trans HW.out.2))
  have HMT := Lib.hid (HMT.out.below hb5A)
  have HMU := Lib.hid (hmu.off9.ext (Ext.alloc _ w5 (maO u un ucn uo uco)))
  clear hb5 HP hB4 h4a4 h4b4 h4t4 hb5A hmu hu hu1
  have hz5A : w5.heap.size + 1 ≤ (w5.alloc (maO u un ucn uo uco)).heap.size := by simp
  have HP := Lib.hid (eqm_any (HA.out.below hB5) (HB.out.below hB5))
  go_wp2_with fail
  refine (HP.out).mono ?_
  rintro e w6 ⟨f6, rfl, hf6, hb6⟩
  have hz6 : w5.heap.size + 1 ≤ w6.heap.size := by have := hb6.size; omega
  have hB6 := hB5.trans (hb6.mono (by omega))
  have h4a6 := h4a5.below hb6 (by omega)
  have h4b6 := h4b5.below hb6 (by omega)
  have h4t6 := h4t5.below hb6 (by omega)
  have h4u6 := h4u5.below hb6 (by omega)
  have HW := Lib.hid (And.intro ((hb6.cell (p := ⟨w.heap.size + 2, 0, none⟩) (by simp; omega)).trans HW.out.1) ((hb6.cell (p := ⟨w.heap.size + 2, 1, none⟩) (by simp; omega)).trans HW.out.2))
  have HMT := Lib.hid (HMT.out.below hb6)
  have HMU := Lib.hid (HMU.out.below hb6)
  clear hb6 HP hB5 h4a5 h4b5 h4t5 h4u5 hz5A
  have HP := Lib.hid (iso_any HMT.out HMU.out)
  go_wp2_with fail
  refine (HP.out).mono ?_
  rintro e w7 ⟨a7, c7, l7, f7, rfl, hf7, -, hb7⟩
  have hz7 : w5.heap.size + 1 ≤ w7.heap.size := by have := hb7.size; omega
  have hB7 := hB6.trans (hb7.mono (by omega))
  have h4a7 := h4a6.below hb7 (by omega)
  have h4b7 := h4b6.below hb7 (by omega)
  have h4t7 := h4t6.below hb7 (by omega)
  have h4u7 := h4u6.below hb7 (by omega)
  have HW := Lib.hid (And.intro ((hb7.cell (p := ⟨w.heap.size + 2, 0, none⟩) (by simp; omega)).trans HW.out.1) ((hb7.cell (p := ⟨w.heap.size + 2, 1, none⟩) (by simp; omega)).trans HW.out.2))
  have HMT := Lib.hid (HMT.out.below hb7)
  have HMU := Lib.hid (HMU.out.below hb7)
  clear hb7 HP hB6 h4a6 h4b6 h4t6 h4u6 hz6
  have HP := Lib.hid (classes_any (HA.out.below hB7))
  go_wp2_with fail
  refine (HP.out).mono ?_
  rintro e w8 ⟨a8, c8, l8, rfl, hl8, hs8, hb8⟩
  have hz8 : w5.heap.size + 1 ≤ w8.heap.size := by have := hb8.size; omega
  have hB8 := hB7.trans (hb8.mono (by omega))
  have h4a8 := h4a7.below hb8 (by omega)
  have h4t8 := h4t7.below hb8 (by omega)
  have h4u8 := h4u7.below hb8 (by omega)
  obtain ⟨hw0, hw1⟩ := And.intro ((hb8.cell (p := ⟨w.heap.size + 2, 0, none⟩) (by simp; omega)).trans HW.out.1) ((hb8.cell (p := ⟨w.heap.size + 2, 1, none⟩) (by simp; omega)).trans HW.out.2)
  have HMT := Lib.hid (HMT.out.below hb8)
  have HMU := Lib.hid (HMU.out.below hb8)
  have HS8 := Lib.hid (hs8.anti (M' := fun _ => False) fun _ _ h => h.elim)
  clear hb8 HP hB7 h4a7 h4b7 h4t7 h4u7 hz7 HW hs8
  obtain ⟨s, hs⟩ : ∃ s : Nat, s = x % a.next.length := ⟨_, rfl⟩
  obtain ⟨q, hq⟩ : ∃ q : Nat, q = y % a.next.length := ⟨_, rfl⟩
  have hsn : s < a.next.length := by rw [hs]; exact Nat.mod_lt _ n0
  have hqn : q < a.next.length := by rw [hq]; exact Nat.mod_lt _ n0
  have hms : (x : Int).tmod ((a.next.length : Nat) : Int) = (s : Int) := by rw [hs]; exact mod_nat _ _
  have hmq : (y : Int).tmod ((a.next.length : Nat) : Int) = (q : Int) := by rw [hq]; exact mod_nat _ _
  have hwx : IntKind.i64.wrap (x : Int) = (x : Int) := IntWalk.i64_in _ (by omega)
  have hwy : IntKind.i64.wrap (y : Int) = (y : Int) := IntWalk.i64_in _ (by omega)
  clear hs hq
  go_wp2
  refine wp_quiet_fast (by kernel_rfl) (by kernel_rfl) ?_
  repeat (first | go_big_quiet_step (fail) | quiet_step (fail))
  refine wpQuiet_nil ?_
  intro _ hw'
  obtain ⟨nq, hw''⟩ := hw'
  subst hw''
  have hB9 := bl_drewN hB8 nq
  have h4a9 := h4a8.below (below_drewN w8.heap.size w8 nq) (by omega)
  have h4t9 := h4t8.below (below_drewN w8.heap.size w8 nq) (by omega)
  have h4u9 := h4u8.below (below_drewN w8.heap.size w8 nq) (by omega)
  have HMT := Lib.hid (HMT.out.below (below_drewN w8.heap.size w8 nq))
  have HMU := Lib.hid (HMU.out.below (below_drewN w8.heap.size w8 nq))
  have HS8 := Lib.hid (HS8.out.drewN nq)
  have hz9 : w5.heap.size + 1 ≤ (w8.drewN nq).heap.size := hz8
  clear hB8 h4a8 h4t8 h4u8 hw0 hw1 hms hmq hwx hwy hz8
  generalize w8.drewN nq = w9 at *
  have HP := Lib.hid (states_any (HA.out.below hB9) (s : Int) (q : Int) (by unfold i64; omega) (by unfold i64; omega))
  go_wp2_with fail
  refine (HP.out).mono ?_
  rintro e wa ⟨aa, ca, la, fa, rfl, hfa, -, hba⟩
  have hza : w5.heap.size + 1 ≤ wa.heap.size := by have := hba.size; omega
  have hBa := hB9.trans (hba.mono (by omega))
  have h4aa := h4a9.below hba (by omega)
  have h4ta := h4t9.below hba (by omega)
  have h4ua := h4u9.below hba (by omega)
  have HMT := Lib.hid (HMT.out.below hba)
  have HMU := Lib.hid (HMU.out.below hba)
  have HS8 := Lib.hid (HS8.out.below hba)
  clear hba HP hB9 h4a9 h4t9 h4u9 hz9
  have hst := st_some OA.out hsn hqn
  have hes : (stErr a (s : Int) (q : Int) != 0) = false := by rw [hst.1]; rfl
  have het : (chk t u != 0) = false := by rw [HT.out, HU.out, chk_min HC.out]; rfl
  have hlen : Hid (l8.length = a.next.length) := by unfold Hid; rw [hl8.out]; unfold Mach.partOf; rw [if_pos (a.err_of_ok OA.out), Mach.part_length]
  have hll : (((l8.length : Nat) : Int) != ((a.next.length : Nat) : Int)) = false := by simp [hlen.out]
  have hs8 : s < l8.length := by rw [hlen.out]; exact hsn
  have hq8 : q < l8.length := by rw [hlen.out]; exact hqn
  obtain ⟨gb, go, x1, rfl, hxc, hx1, -⟩ := HS8.out.at_int hs8
  obtain ⟨gb', go', y1, hgg, hyc, hy1, -⟩ := HS8.out.at_int hq8
  obtain ⟨rfl, rfl⟩ : gb = gb' ∧ go = go' := by simpa using hgg
  have tcl : (fa == (x1 != y1)) = true := by
    have h1 : fa = !decide (a.cl s = a.cl q) := by rw [hfa.out.2, hst.2]
    rw [h1, classes_at OA.out hl8.out hx1.out, classes_at OA.out hl8.out hy1.out]
    by_cases e : x1 = y1 <;> simp [e]
  obtain ⟨bb, hbb⟩ : ∃ bb : Bool, bb = decide (t = u) := ⟨_, rfl⟩
  have h6 : f6 = bb := by
    rw [hf6.out, hbb, HT.out, HU.out]
    refine decide_eq_decide.2 ?_
    rw [dist_iff HC.out, Mach.minF_iff OA.out OB.out (chk_swap2 HC.out).2.2]
    exact ⟨fun h => h.2, fun h => ⟨HC.out, h⟩⟩
  have h7 : f7 = bb := by
    rw [hf7.out.2, hbb, HT.out, HU.out]
    have hi := iso_min HC.out
    by_cases e : a.minF = b.minF
    · rw [isoW_yes (chk_min HC.out) (hi.2 e)]; simp [e]
    · rw [isoW_no (fun h => e (hi.1 h))]; simp [e]
  subst h6
  subst h7
  have HQ := Lib.hid (same_b (HMT.out.below (Below.refl wa.heap.size wa).drew) (HMU.out.below (Below.refl wa.heap.size wa).drew) hbb.symm)
  have tbb : (f7 == f7) = true := by simp
  have hSS : (C4 wa.drew w4.heap.size tn tcn tq tco t ∧ C4 wa.drew w5.heap.size un ucn uo uco u) ∧ wa.drew.cell? ⟨gb, go + s, none⟩ = some (.int .i64 x1) ∧ wa.drew.cell? ⟨gb, go + q, none⟩ = some (.int .i64 y1) := ⟨⟨h4ta.drew, h4ua.drew⟩, by simpa using hxc, by simpa using hyc⟩
  have hBd := hBa.drew
  have hzd : w5.heap.size + 1 ≤ wa.drew.heap.size := hza
  clear hfa hst hf6 hf7 hbb hgg HMT HMU HS8 h4ta h4ua
  go_wp2
  refine wp_region_L (fun w' => (C4 w' w4.heap.size tn tcn tq tco t ∧ C4 w' w5.heap.size un ucn uo uco u) ∧ w'.cell? ⟨gb, go + s, none⟩ = some (.int .i64 x1) ∧ w'.cell? ⟨gb, go + q, none⟩ = some (.int .i64 y1)) [0, 1, 2, 4, 5, 6, 7, 8, 9, 10, 11, 12, 13, 14, 15, 16, 17, 18, 19, 20, 21, 22, 23] (by kernel_rfl) ?_
  clear hxc hyc hBa hza h4aa
  generalize wa.drew = wc at *
  refine wpAnyL_take (i := 0) (v := ?v14) rfl (by kernel_rfl) (by kernel_rfl) (by kernel_rfl) (by kernel_rfl) (fun _ _ _ h => h) (Or.inl ⟨by rfl, ?y14⟩) (by assumption) ?r14
  case y14 => (intro w' hSw; (try dsimp only at hSw); go_simp; try with_reducible rfl)
  try simp only [Act.put, List.setIfInBounds_toArray, List.set_cons_zero, List.set_cons_succ]
  refine wpAnyL_take (i := 1) (v := ?v15) rfl (by kernel_rfl) (by kernel_rfl) (by kernel_rfl) (by kernel_rfl) (fun _ _ _ h => h) (Or.inl ⟨by rfl, ?y15⟩) (by assumption) ?r15
  case y15 => (intro w' hSw; (try dsimp only at hSw); go_simp; try with_reducible rfl)
  try simp only [Act.put, List.setIfInBounds_toArray, List.set_cons_zero, List.set_cons_succ]
  refine wpAnyL_take (i := 2) (v := ?v16) rfl (by kernel_rfl) (by kernel_rfl) (by kernel_rfl) (by kernel_rfl) (fun _ _ _ h => h) (Or.inl ⟨by rfl, ?y16⟩) (by assumption) ?r16
  case y16 => (intro w' hSw; (try dsimp only at hSw); go_simp; try with_reducible rfl)
  try simp only [Act.put, List.setIfInBounds_toArray, List.set_cons_zero, List.set_cons_succ]
  refine wpAnyL_one (i := 3) (by kernel_rfl) rfl rfl (fun K hK => ?_)
  go_simp
  refine (HQ.out).mono ?_
  rintro e wd ⟨rfl, hbd⟩
  have hBd2 := hBd.trans (hbd.mono (by omega))
  have hSd : (C4 wd w4.heap.size tn tcn tq tco t ∧ C4 wd w5.heap.size un ucn uo uco u) ∧ wd.cell? ⟨gb, go + s, none⟩ = some (.int .i64 x1) ∧ wd.cell? ⟨gb, go + q, none⟩ = some (.int .i64 y1) := ⟨⟨hSS.1.1.below hbd (by omega), hSS.1.2.below hbd (by omega)⟩, (hbd.cell (p := ⟨gb, go + s, none⟩) (lt_of_cell hSS.2.1)).trans hSS.2.1, (hbd.cell (p := ⟨gb, go + q, none⟩) (lt_of_cell hSS.2.2)).trans hSS.2.2⟩
  have hzd2 : w5.heap.size + 1 ≤ wd.heap.size := by have := hbd.size; omega
  refine hK _ _ (fun _ => hSd) ?_
  clear hK K hSS hbd hBd hzd HQ
  refine wpAnyL_take (i := 4) (v := ?v17) rfl (by kernel_rfl) (by kernel_rfl) (by kernel_rfl) (by kernel_rfl) (fun _ _ _ h => h) (Or.inl ⟨by rfl, ?y17⟩) (by assumption) ?r17
  case y17 => (intro w' hSw; (try dsimp only at hSw); go_simp; try with_reducible rfl)
  try simp only [Act.put, List.setIfInBounds_toArray, List.set_cons_zero, List.set_cons_succ]
  refine wpAnyL_take (i := 5) (v := ?v18) rfl (by kernel_rfl) (by kernel_rfl) (by kernel_rfl) (by kernel_rfl) (fun _ _ _ h => h) (Or.inl ⟨by rfl, ?y18⟩) (by assumption) ?r18
  case y18 => (intro w' hSw; (try dsimp only at hSw); go_simp; try with_reducible rfl)
  try simp only [Act.put, List.setIfInBounds_toArray, List.set_cons_zero, List.set_cons_succ]
  refine wpAnyL_take (i := 6) (v := ?v19) rfl (by kernel_rfl) (by kernel_rfl) (by kernel_rfl) (by kernel_rfl) (fun _ _ _ h => h) (Or.inl ⟨by rfl, ?y19⟩) (by assumption) ?r19
  case y19 => (intro w' hSw; (try dsimp only at hSw); go_simp; try with_reducible rfl)
  try simp only [Act.put, List.setIfInBounds_toArray, List.set_cons_zero, List.set_cons_succ]
  refine wpAnyL_take (i := 7) (v := ?v20) rfl (by kernel_rfl) (by kernel_rfl) (by kernel_rfl) (by kernel_rfl) (fun _ _ _ h => h) (Or.inl ⟨by rfl, ?y20⟩) (by assumption) ?r20
  case y20 => (intro w' hSw; (try dsimp only at hSw); go_simp; try with_reducible rfl)
  try simp only [Act.put, List.setIfInBounds_toArray, List.set_cons_zero, List.set_cons_succ]
  refine wpAnyL_take (i := 8) (v := ?v21) rfl (by kernel_rfl) (by kernel_rfl) (by kernel_rfl) (by kernel_rfl) (fun _ _ _ h => h) (Or.inl ⟨by rfl, ?y21⟩) (by assumption) ?r21
  case y21 => (intro w' hSw; (try dsimp only at hSw); go_simp; try with_reducible rfl)
  try simp only [Act.put, List.setIfInBounds_toArray, List.set_cons_zero, List.set_cons_succ]
  refine wpAnyL_take (i := 9) (v := ?v22) rfl (by kernel_rfl) (by kernel_rfl) (by kernel_rfl) (by kernel_rfl) (fun _ _ _ h => h) (Or.inl ⟨by rfl, ?y22⟩) (by assumption) ?r22
  case y22 => (intro w' hSw; (try dsimp only at hSw); go_simp; try with_reducible rfl)
  try simp only [Act.put, List.setIfInBounds_toArray, List.set_cons_zero, List.set_cons_succ]
  refine wpAnyL_take (i := 10) (v := ?v23) rfl (by kernel_rfl) (by kernel_rfl) (by kernel_rfl) (by kernel_rfl) (fun _ _ _ h => h) (Or.inl ⟨by rfl, ?y23⟩) (by assumption) ?r23
  case y23 => (intro w' hSw; (try dsimp only at hSw); go_simp; try with_reducible rfl)
  try simp only [Act.put, List.setIfInBounds_toArray, List.set_cons_zero, List.set_cons_succ]
  refine wpAnyL_take (i := 11) (v := ?v24) rfl (by kernel_rfl) (by kernel_rfl) (by kernel_rfl) (by kernel_rfl) (fun _ _ _ h => h) (Or.inl ⟨by rfl, ?y24⟩) (by assumption) ?r24
  case y24 => (intro w' hSw; (try dsimp only at hSw); go_simp; try with_reducible rfl)
  try simp only [Act.put, List.setIfInBounds_toArray, List.set_cons_zero, List.set_cons_succ]
  refine wpAnyL_take (i := 12) (v := ?v25) rfl (by kernel_rfl) (by kernel_rfl) (by kernel_rfl) (by kernel_rfl) (fun _ _ _ h => h) (Or.inl ⟨by rfl, ?y25⟩) (by assumption) ?r25
  case y25 => (intro w' hSw; (try dsimp only at hSw); go_simp; try with_reducible rfl)
  try simp only [Act.put, List.setIfInBounds_toArray, List.set_cons_zero, List.set_cons_succ]
  refine wpAnyL_take (i := 13) (v := ?v26) rfl (by kernel_rfl) (by kernel_rfl) (by kernel_rfl) (by kernel_rfl) (fun _ _ _ h => h) (Or.inl ⟨by rfl, ?y26⟩) (by assumption) ?r26
  case y26 => (intro w' hSw; (try dsimp only at hSw); go_simp; try with_reducible rfl)
  try simp only [Act.put, List.setIfInBounds_toArray, List.set_cons_zero, List.set_cons_succ]
  refine wpAnyL_take (i := 14) (v := ?v27) rfl (by kernel_rfl) (by kernel_rfl) (by kernel_rfl) (by kernel_rfl) (fun _ _ _ h => h) (Or.inl ⟨by rfl, ?y27⟩) (by assumption) ?r27
  case y27 => (intro w' hSw; (try dsimp only at hSw); go_simp; try with_reducible rfl)
  try simp only [Act.put, List.setIfInBounds_toArray, List.set_cons_zero, List.set_cons_succ]
  refine wpAnyL_take (i := 15) (v := ?v28) rfl (by kernel_rfl) (by kernel_rfl) (by kernel_rfl) (by kernel_rfl) (fun _ _ _ h => h) (Or.inl ⟨by rfl, ?y28⟩) (by assumption) ?r28
  case y28 => (intro w' hSw; (try dsimp only at hSw); go_simp; try with_reducible rfl)
  try simp only [Act.put, List.setIfInBounds_toArray, List.set_cons_zero, List.set_cons_succ]
  refine wpAnyL_take (i := 16) (v := ?v29) rfl (by kernel_rfl) (by kernel_rfl) (by kernel_rfl) (by kernel_rfl) (fun _ _ _ h => h) (Or.inl ⟨by rfl, ?y29⟩) (by assumption) ?r29
  case y29 => (intro w' hSw; (try dsimp only at hSw); go_simp; try with_reducible rfl)
  try simp only [Act.put, List.setIfInBounds_toArray, List.set_cons_zero, List.set_cons_succ]
  refine wpAnyL_take (i := 17) (v := ?v30) rfl (by kernel_rfl) (by kernel_rfl) (by kernel_rfl) (by kernel_rfl) (fun _ _ _ h => h) (Or.inl ⟨by rfl, ?y30⟩) (by assumption) ?r30
  case y30 => (intro w' hSw; (try dsimp only at hSw); go_simp; try with_reducible rfl)
  try simp only [Act.put, List.setIfInBounds_toArray, List.set_cons_zero, List.set_cons_succ]
  refine wpAnyL_take (i := 18) (v := ?v31) rfl (by kernel_rfl) (by kernel_rfl) (by kernel_rfl) (by kernel_rfl) (fun _ _ _ h => h) (Or.inl ⟨by rfl, ?y31⟩) (by assumption) ?r31
  case y31 => (intro w' hSw; (try dsimp only at hSw); go_simp; try with_reducible rfl)
  try simp only [Act.put, List.setIfInBounds_toArray, List.set_cons_zero, List.set_cons_succ]
  refine wpAnyL_take (i := 19) (v := ?v32) rfl (by kernel_rfl) (by kernel_rfl) (by kernel_rfl) (by kernel_rfl) (fun _ _ _ h => h) (Or.inl ⟨by rfl, ?y32⟩) (by assumption) ?r32
  case y32 => (intro w' hSw; (try dsimp only at hSw); go_simp; try with_reducible rfl)
  try simp only [Act.put, List.setIfInBounds_toArray, List.set_cons_zero, List.set_cons_succ]
  refine wpAnyL_take (i := 20) (v := ?v33) rfl (by kernel_rfl) (by kernel_rfl) (by kernel_rfl) (by kernel_rfl) (fun _ _ _ h => h) (Or.inl ⟨by rfl, ?y33⟩) (by assumption) ?r33
  case y33 => (intro w' hSw; (try dsimp only at hSw); go_simp; try with_reducible rfl)
  try simp only [Act.put, List.setIfInBounds_toArray, List.set_cons_zero, List.set_cons_succ]
  refine wpAnyL_take (i := 21) (v := ?v34) rfl (by kernel_rfl) (by kernel_rfl) (by kernel_rfl) (by kernel_rfl) (fun _ _ _ h => h) (Or.inl ⟨by rfl, ?y34⟩) (by assumption) ?r34
  case y34 => (intro w' hSw; (try dsimp only at hSw); go_simp; try with_reducible rfl)
  try simp only [Act.put, List.setIfInBounds_toArray, List.set_cons_zero, List.set_cons_succ]
  refine wpAnyL_take (i := 22) (v := ?v35) rfl (by kernel_rfl) (by kernel_rfl) (by kernel_rfl) (by kernel_rfl) (fun _ _ _ h => h) (Or.inl ⟨by rfl, ?y35⟩) (by assumption) ?r35
  case y35 => (intro w' hSw; (try dsimp only at hSw); go_simp; try with_reducible rfl)
  try simp only [Act.put, List.setIfInBounds_toArray, List.set_cons_zero, List.set_cons_succ]
  refine wpAnyL_take (i := 23) (v := ?v36) rfl (by kernel_rfl) (by kernel_rfl) (by kernel_rfl) (by kernel_rfl) (fun _ _ _ h => h) (Or.inl ⟨by rfl, ?y36⟩) (by assumption) ?r36
  case y36 => (intro w' hSw; (try dsimp only at hSw); go_simp; try with_reducible rfl)
  try simp only [Act.put, List.setIfInBounds_toArray, List.set_cons_zero, List.set_cons_succ]
  refine wpAnyL_one (i := 24) (by kernel_rfl) rfl rfl (fun K hK => ?_)
  go_simp
  refine (ex9_any).mono ?_
  rintro e wz ⟨rfl, hbz⟩
  have hBz := hBd2.trans (hbz.mono (by omega))
  have hSz : (C4 wz w4.heap.size tn tcn tq tco t ∧ C4 wz w5.heap.size un ucn uo uco u) ∧ wz.cell? ⟨gb, go + s, none⟩ = some (.int .i64 x1) ∧ wz.cell? ⟨gb, go + q, none⟩ = some (.int .i64 y1) := ⟨⟨hSd.1.1.below hbz (by omega), hSd.1.2.below hbz (by omega)⟩, (hbz.cell (p := ⟨gb, go + s, none⟩) (lt_of_cell hSd.2.1)).trans hSd.2.1, (hbz.cell (p := ⟨gb, go + q, none⟩) (lt_of_cell hSd.2.2)).trans hSd.2.2⟩
  refine hK _ _ (fun _ => hSz) ?_
  clear hK K hSd hbz hBd2
  refine wpAnyL_one (i := 25) (by kernel_rfl) rfl rfl (fun K hK => ?_)
  go_simp
  refine hK _ _ (fun _ => hSz) ?_
  clear hK K
  refine wpAnyL_one (i := 26) (by kernel_rfl) rfl rfl (fun K hK => ?_)
  go_simp
  refine hK _ _ (fun _ => hSz) ?_
  clear hK K
  refine wpAnyL_done (by kernel_rfl) ?_ _
  go_wp2
  go_ret
  exact ⟨rfl, hBz⟩

set_option maxRecDepth 100000 in
set_option maxHeartbeats 4000000 in
theorem lmineq_any (ha : Ma M w an acn ao aco a) (hb : Ma M w bn bcn bo bco b) (x y : Int) (hx : 0 ≤ x ∧ x < 256) (hy : 0 ≤ y ∧ y < 256) :
    Calls Try.prog 15 #[maV a an acn ao aco, maV b bn bcn bo bco, .agg #[.int .u8 x, .int .u8 y]] w fun e w' => e = .returned (.bool true) ∧ Below w.heap.size w w' := by
  obtain ⟨x, rfl⟩ := Int.eq_ofNat_of_zero_le hx.1
  obtain ⟨y, rfl⟩ := Int.eq_ofNat_of_zero_le hy.1
  by_cases hall : a.great = false ∧ b.great = false ∧ chk a b = 0
  · exact mineq_main ha hb x y (by omega) (by omega) hall.1 hall.2.1 hall.2.2
  have hcase : (a.great = true) ∨ (a.great = false ∧ b.great = true) ∨ (a.great = false ∧ b.great = false ∧ ¬ chk a b = 0) := by
    cases h1 : a.great with
    | true => exact .inl rfl
    | false =>
      cases h2 : b.great with
      | true => exact .inr (.inl ⟨rfl, rfl⟩)
      | false => exact .inr (.inr ⟨rfl, rfl, fun h => hall ⟨h1, h2, h⟩⟩)
  have hla := ha.next.le
  have HA := Lib.hid ha.off9
  have HB := Lib.hid hb.off9
  have hB0 : Below w.heap.size w (((w.alloc (maO a an acn ao aco)).alloc (maO b bn bcn bo bco)).alloc (atO x y)) := (((Below.refl _ _).alloc (Nat.le_refl _) _).alloc (by simp) _).alloc (by simp; omega) _
  have h4a : C4 (((w.alloc (maO a an acn ao aco)).alloc (maO b bn bcn bo bco)).alloc (atO x y)) w.heap.size an acn ao aco a := (c4_new w).below (B := w.heap.size + 1) (((Below.refl _ _).alloc (by simp) _).alloc (by simp) _) (by omega)
  have h4b : C4 (((w.alloc (maO a an acn ao aco)).alloc (maO b bn bcn bo bco)).alloc (atO x y)) (w.heap.size + 1) bn bcn bo bco b := by
    have h := c4_new (m := b) (an := bn) (cn := bcn) (ao := bo) (co := bco) (w.alloc (maO a an acn ao aco))
    have h2 := h.below (B := w.heap.size + 2) ((Below.refl _ _).alloc (by simp) (atO x y)) (by simp)
    simpa using h2
  have hz0 : w.heap.size + 3 ≤ (((w.alloc (maO a an acn ao aco)).alloc (maO b bn bcn bo bco)).alloc (atO x y)).heap.size := by simp
  clear ha hb hall hx hy
  have HG := Lib.hid (great_any (HA.out.below hB0))
  go_enter Try.func15, Try.ntmps15
  go_wp2_with fail
  refine (HG.out).mono ?_
  rintro e w1 ⟨rfl, hb1⟩
  generalize ((w.alloc (maO a an acn ao aco)).alloc (maO b bn bcn bo bco)).alloc (atO x y) = v0 at *
  have hB1 := hB0.trans (hb1.mono (by omega))
  have h4a1 := h4a.below hb1 (by omega)
  have h4b1 := h4b.below hb1 (by omega)
  have hz1 : w.heap.size + 3 ≤ w1.heap.size := by have := hb1.size; omega
  clear hb1 HG hB0 h4a h4b hz0
  rcases hcase with hg | ⟨hg, hg2⟩ | ⟨hg, hg2, hc⟩
  · rw [hg]
    go_wp2_with fail
    refine (ex9_any).mono ?_
    rintro e wz ⟨rfl, hbz⟩
    have hBf := hB1.trans (hbz.mono (by omega))
    go_wp2
    go_ret
    exact ⟨rfl, hBf⟩
  · rw [hg]
    have HG := Lib.hid (great_any (HB.out.below hB1))
    go_wp2_with fail
    refine (HG.out).mono ?_
    rintro e w2 ⟨rfl, hb2⟩
    rw [hg2]
    have hB2 := hB1.trans (hb2.mono (by omega))
    have hz2 : w.heap.size + 3 ≤ w2.heap.size := by have := hb2.size; omega
    clear hb2 HG hB1 h4a1 h4b1 hz1
    go_wp2_with fail
    refine (ex9_any).mono ?_
    rintro e wz ⟨rfl, hbz⟩
    have hBf := hB2.trans (hbz.mono (by omega))
    go_wp2
    go_ret
    exact ⟨rfl, hBf⟩
  · rw [hg]
    have hec : (chk a b != 0) = true := by simp [hc]
    have HG := Lib.hid (great_any (HB.out.below hB1))
    clear hc
    go_wp2_with fail
    refine (HG.out).mono ?_
    rintro e w2 ⟨rfl, hb2⟩
    rw [hg2]
    have hB2 := hB1.trans (hb2.mono (by omega))
    have h4a2 := h4a1.below hb2 (by omega)
    have h4b2 := h4b1.below hb2 (by omega)
    have hz2 : w.heap.size + 3 ≤ w2.heap.size := by have := hb2.size; omega
    clear hb2 HG hB1 h4a1 h4b1 hz1
    have HG := Lib.hid (checkR_any (HA.out.below hB2) (HB.out.below hB2))
    go_wp2_with fail
    refine (HG.out).mono ?_
    rintro e w3 ⟨rfl, hb3⟩
    have hB3 := hB2.trans (hb3.mono (by omega))
    have hz3 : w.heap.size + 3 ≤ w3.heap.size := by have := hb3.size; omega
    clear hb3 HG hB2 h4a2 h4b2 hz2
    go_wp2_with fail
    refine (ex9_any).mono ?_
    rintro e wz ⟨rfl, hbz⟩
    have hBf := hB3.trans (hbz.mono (by omega))
    go_wp2
    go_ret
    exact ⟨rfl, hBf⟩
end
end Go.Proofs.Ytdnmgiabgpilkaa
