/- Slices that a call owns: made or appended to; read, written, handed on. No condition. -/
import Derived.Test.YtlgdijgfphedpaaBase
import Derived.Laws.OwnMore
import Derived.Laws.MakeOwn
namespace Go.Proofs.Ytlgdijgfphedpaa
open Go.RowKit

/-- The slice v is the call's own (its block lies from B on) and reads as l. -/
def Ow {α : Type} [GR α] (B : Nat) (M : Nat → Prop) (w : World) (T : TypeId) (v : Value) (l : List α) : Prop :=
  ∃ xs, w.ownsRow B T (GR.sz α) v l.length xs ∧ ∀ j x, l[j]? = some x → GR.rep M w ((xs.drop (j * GR.sz α)).take (GR.sz α)) x

section
variable {α : Type} [GR α] {B : Nat} {M M' : Nat → Prop} {w w' : World} {T : TypeId} {v v' : Value} {l : List α} {a : Option Addr} {c : Nat}

theorem Ow.nil : Ow B M w T (.slice none 0 0) ([] : List α) := ⟨[], World.ownsRow_nil _ _ _ _, fun j x h => by simp at h⟩

theorem Ow.shape (h : Ow B M w T v l) : ∃ a c, v = .slice a l.length c ∧ l.length ≤ c ∧ c ≤ maxLen := by
  obtain ⟨xs, ⟨_, h2⟩, _⟩ := h
  rcases h2 with ⟨rfl, h0⟩ | ⟨g, cap, cur, rfl, _, _, h3, h4, _⟩
  · exact ⟨none, 0, by rw [h0], by omega, by unfold maxLen; omega⟩
  · exact ⟨_, _, rfl, h3, h4⟩

theorem Ow.le (h : Ow B M w T v l) : l.length ≤ 9223372036854775807 := by
  obtain ⟨a, c, _, h1, h2⟩ := h.shape
  have := Nat.le_trans h1 h2
  unfold maxLen at this
  exact this

theorem Ow.lt (h : Ow B M w T v l) : ∀ k, v.ownBlock = some k → B ≤ k ∧ k < w.heap.size := by
  obtain ⟨xs, h1, _⟩ := h
  exact h1.lt

theorem ownsRow_same {n size : Nat} {xs : List Value} (h : w.ownsRow B T size v n xs) (hb : ∀ k, v.ownBlock = some k → w'.heap[k]? = w.heap[k]?) : w'.ownsRow B T size v n xs := by
  refine ⟨h.1, ?_⟩
  rcases h.2 with h2 | ⟨g, cap, cur, rfl, h3, h4, h5⟩
  · exact .inl h2
  · exact .inr ⟨g, cap, cur, rfl, h3, by rw [hb g rfl]; exact h4, h5⟩

/-- Carried over whatever leaves its own block and its elements alone. -/
theorem Ow.ext (h : Ow B M w T v l) (e : Ext M M' w w') (hb : ∀ k, v.ownBlock = some k → w'.heap[k]? = w.heap[k]?) : Ow B M' w' T v l := by
  obtain ⟨xs, h1, h2⟩ := h
  exact ⟨xs, ownsRow_same h1 hb, fun j x hj => GR.ext e (h2 j x hj)⟩

theorem Ow.below (h : Ow B M w T v l) (hb : Below w.heap.size w w') : Ow B M w' T v l :=
  h.ext (Ext.of_below hb) fun k hk => hb.block k (h.lt k hk).2

theorem Ow.alloc (h : Ow B M w T v l) (o : Obj) : Ow B M (w.alloc o) T v l :=
  h.ext (Ext.alloc _ _ _) fun k hk => Below.heap_alloc _ _ _ (h.lt k hk).2

theorem Ow.drew (h : Ow B M w T v l) : Ow B M w.drew T v l := h.ext (Ext.drew _ _) fun _ _ => rfl
theorem Ow.drewN (h : Ow B M w T v l) (n : Nat) : Ow B M (w.drewN n) T v l := h.below (below_drewN _ _ _)

/-- A store into another block. -/
theorem Ow.setOther (h : Ow B M w T v l) {p : Addr} (hp : M p.block) (hne : ∀ k, v.ownBlock = some k → k ≠ p.block) (u : Value) : Ow B M (w.setCell p u) T v l :=
  h.ext (Ext.setCell _ hp u) fun k hk => Below.heap_setCell _ _ _ _ (hne k hk)

theorem Ow.push {xs news : List Value} {x : α} (hr : w.ownsRow B T (GR.sz α) v l.length xs) (hx : ∀ j x, l[j]? = some x → GR.rep M w ((xs.drop (j * GR.sz α)).take (GR.sz α)) x)
    (e : Ext M M' w w') (ho : w'.ownsRow B T (GR.sz α) v' (l.length + 1) (xs ++ news)) (hn : GR.rep M' w' news x) : Ow B M' w' T v' (l ++ [x]) := by
  have hl : xs.length = l.length * GR.sz α := hr.1
  refine ⟨xs ++ news, by simpa using ho, fun j y hj => ?_⟩
  by_cases hlt : j < l.length
  · rw [List.getElem?_append_left hlt] at hj
    have := GR.ext e (hx j y hj)
    have h1 : (j + 1) * GR.sz α ≤ xs.length := by rw [hl]; exact Nat.mul_le_mul_right _ hlt
    rw [Nat.add_mul, Nat.one_mul] at h1
    rw [List.drop_append_of_le_length (by omega), List.take_append_of_le_length (by simp; omega)]
    exact this
  · have hj2 : j = l.length := by
      by_cases e2 : j < (l ++ [x]).length
      · simp at e2; omega
      · rw [List.getElem?_eq_none (by omega)] at hj; simp at hj
    subst hj2
    rw [List.getElem?_append_right (Nat.le_refl _)] at hj
    simp at hj
    subst hj
    rw [← hl, List.drop_append_of_le_length (Nat.le_refl _), List.drop_length, List.nil_append, List.take_of_length_le (by rw [GR.len hn]; exact Nat.le_refl _)]
    exact hn

theorem Ow.toSl (h : Ow B M w T (.slice a l.length c) l) (hM : ∀ k, (Value.slice a l.length c).ownBlock = some k → ¬ M k) : Sl M w a c l := by
  obtain ⟨xs, h1, h2⟩ := h
  rcases h1.2 with ⟨hv, h0⟩ | ⟨g, cap, cur, hv, hb, hg, h3, h4, h5, h6⟩
  · obtain rfl := List.length_eq_zero_iff.1 h0
    simp only [Value.slice.injEq] at hv
    obtain ⟨rfl, _, rfl⟩ := hv
    exact ⟨Nat.le_refl _, by unfold maxLen; omega, fun j x h => by simp at h⟩
  · simp only [Value.slice.injEq, true_and] at hv
    obtain ⟨rfl, rfl⟩ := hv
    refine ⟨h3, h4, fun j x hj => ⟨g, 0, _, rfl, (Array.getElem?_eq_some_iff.1 hg).1, hM g rfl, h2 j x hj, fun i u hi => ?_⟩⟩
    have hjl : j < l.length := by
      by_cases e : j < l.length
      · exact e
      · rw [List.getElem?_eq_none (by omega)] at hj; simp at hj
    have hi2 : i < GR.sz α := by
      by_cases e : i < GR.sz α
      · exact e
      · rw [List.getElem?_eq_none (by simp; omega)] at hi; simp at hi
    have hlt : j * GR.sz α + i < l.length * GR.sz α := by
      have := Nat.mul_le_mul_right (GR.sz α) hjl
      rw [Nat.succ_mul] at this
      omega
    rw [Nat.zero_add, h1.cellAt _ hlt]
    rw [List.getElem?_take, if_pos hi2, List.getElem?_drop] at hi
    exact hi

theorem Ow.ownsRow (h : Ow B M w T v l) : ∃ xs, w.ownsRow B T (GR.sz α) v l.length xs ∧ ∀ j x, l[j]? = some x → GR.rep M w ((xs.drop (j * GR.sz α)).take (GR.sz α)) x := h
end

section
variable {B : Nat} {M M' : Nat → Prop} {w w' : World} {T : TypeId} {v v' : Value} {a : Option Addr} {c : Nat}

theorem take_drop_one {xs : List Value} {j : Nat} {u : Value} (h : (xs.drop (j * 1)).take 1 = [u]) : xs[j]? = some u := by
  have h1 : ((xs.drop (j * 1)).take 1)[0]? = some u := by rw [h]; rfl
  simpa [List.getElem?_take, List.getElem?_drop] using h1

theorem ow_some {α : Type} [GR α] {l : List α} (h : Ow B M w T (.slice a l.length c) l) (h0 : 0 < l.length) : ∃ g, a = some ⟨g, 0, none⟩ ∧ B ≤ g ∧ g < w.heap.size := by
  obtain ⟨xs, h1, _⟩ := h
  rcases h1.2 with ⟨_, h0'⟩ | ⟨g, cap, cur, hv, hb, hg, _⟩
  · omega
  · simp only [Value.slice.injEq, true_and] at hv
    exact ⟨g, hv.1, hb, (Array.getElem?_eq_some_iff.1 hg).1⟩

theorem Ow.at_int {l : List Int} (h : Ow B M w T (.slice a l.length c) l) {j : Nat} (hj : j < l.length) :
    ∃ g x, a = some ⟨g, 0, none⟩ ∧ w.cell? ⟨g, j, none⟩ = some (.int .i64 x) ∧ w.frozen? ⟨g, j, none⟩ = false ∧ Hid (l[j]? = some x) ∧ Hid (i64 x) := by
  obtain ⟨g, rfl, _, _⟩ := ow_some h (by omega)
  obtain ⟨xs, h1, h2⟩ := h
  obtain ⟨h3, h4⟩ := h2 j l[j] (by simp [hj])
  refine ⟨g, l[j], rfl, ?_, h1.frozenAt j, by unfold Hid; simp [hj], h4⟩
  rw [h1.cellAt j (by simpa [GR.sz] using hj)]
  exact take_drop_one h3

theorem Ow.at_bool {l : List Bool} (h : Ow B M w T (.slice a l.length c) l) {j : Nat} (hj : j < l.length) :
    ∃ g x, a = some ⟨g, 0, none⟩ ∧ w.cell? ⟨g, j, none⟩ = some (.bool x) ∧ w.frozen? ⟨g, j, none⟩ = false ∧ Hid (l[j]? = some x) := by
  obtain ⟨g, rfl, _, _⟩ := ow_some h (by omega)
  obtain ⟨xs, h1, h2⟩ := h
  have h3 := h2 j l[j] (by simp [hj])
  refine ⟨g, l[j], rfl, ?_, h1.frozenAt j, by unfold Hid; simp [hj]⟩
  rw [h1.cellAt j (by simpa [GR.sz] using hj)]
  exact take_drop_one h3

theorem take_drop_set {xs : List Value} {i j : Nat} {u : Value} : ((xs.set i u).drop (j * 1)).take 1 = if i = j ∧ j < xs.length then [u] else (xs.drop (j * 1)).take 1 := by
  apply List.ext_getElem?
  intro k
  rcases k with _ | k
  · by_cases e : i = j
    · subst e
      by_cases hl : i < xs.length
      · simp [List.getElem?_drop, hl]
      · simp [List.getElem?_drop, hl]
    · simp [List.getElem?_drop, e]
  · rw [List.getElem?_take, if_neg (by omega)]
    split
    · simp
    · rw [List.getElem?_take, if_neg (by omega)]

/-- A store into an element of one cell. -/
theorem Ow.set {α : Type} [GR α] (hs1 : GR.sz α = 1) {l : List α} {g : Nat} (h : Ow B M w T (.slice (some ⟨g, 0, none⟩) l.length c) l) (hM : M g) {j : Nat} {u : Value} {x : α}
    (hx : GR.rep M (w.setCell ⟨g, j, none⟩ u) [u] x) : Ow B M (w.setCell ⟨g, j, none⟩ u) T (.slice (some ⟨g, 0, none⟩) l.length c) (l.set j x) := by
  obtain ⟨xs, h1, h2⟩ := h
  have hl : xs.length = l.length := by have := h1.1; rw [hs1] at this; omega
  refine ⟨xs.set j u, by simpa using (h1.stored j u).1, fun i y hi => ?_⟩
  rw [hs1] at h2 ⊢
  rw [take_drop_set]
  by_cases e : j = i
  · subst e
    by_cases hl2 : j < l.length
    · rw [if_pos ⟨rfl, by omega⟩]
      simp [hl2] at hi
      subst hi
      exact hx
    · rw [List.getElem?_eq_none (by simp; omega)] at hi; simp at hi
  · rw [if_neg (by omega)]
    rw [List.getElem?_set_ne e] at hi
    exact GR.ext (Ext.setCell w (p := ⟨g, j, none⟩) hM u) (h2 i y hi)

/-- Numbers hang on no other memory. -/
theorem Ow.anyM {l : List Int} (h : Ow B M w T v l) : Ow B M' w T v l := by
  obtain ⟨xs, h1, h2⟩ := h
  exact ⟨xs, h1, fun j x hj => h2 j x hj⟩
theorem Ow.anyMb {l : List Bool} (h : Ow B M w T v l) : Ow B M' w T v l := by
  obtain ⟨xs, h1, h2⟩ := h
  exact ⟨xs, h1, fun j x hj => h2 j x hj⟩
/-- Handed back as new memory. -/
theorem Ow.fresh {l : List Int} (h : Ow B M w T (.slice a l.length c) l) {n : Nat} (hB : n ≤ B) : Sl (fun k => k < n) w a c l :=
  (h.anyM (M' := fun k => k < n)).toSl fun k hk hlt => by have := (h.lt k hk).1; omega

theorem Ow.at_int' {l : List Int} {n : Nat} (hn : n = l.length) (h : Ow B M w T (.slice a n c) l) {j : Nat} (hj : j < l.length) :
    ∃ g x, a = some ⟨g, 0, none⟩ ∧ w.cell? ⟨g, j, none⟩ = some (.int .i64 x) ∧ w.frozen? ⟨g, j, none⟩ = false ∧ Hid (l[j]? = some x) ∧ Hid (i64 x) := by
  subst hn; exact h.at_int hj
theorem Ow.at_bool' {l : List Bool} {n : Nat} (hn : n = l.length) (h : Ow B M w T (.slice a n c) l) {j : Nat} (hj : j < l.length) :
    ∃ g x, a = some ⟨g, 0, none⟩ ∧ w.cell? ⟨g, j, none⟩ = some (.bool x) ∧ w.frozen? ⟨g, j, none⟩ = false ∧ Hid (l[j]? = some x) := by
  subst hn; exact h.at_bool hj
theorem Ow.set_int {l : List Int} {g n : Nat} (h : Ow B M w T (.slice (some ⟨g, 0, none⟩) n c) l) (hn : n = l.length) (hM : M g) {x : Int} (j : Nat) (hx : i64 x) :
    Ow B M (w.setCell ⟨g, j, none⟩ (.int .i64 x)) T (.slice (some ⟨g, 0, none⟩) n c) (l.set j x) := by
  subst hn; exact Ow.set rfl h hM (u := .int .i64 x) ⟨rfl, hx⟩
theorem Ow.set_bool {l : List Bool} {g n : Nat} (h : Ow B M w T (.slice (some ⟨g, 0, none⟩) n c) l) (hn : n = l.length) (hM : M g) (x : Bool) (j : Nat) :
    Ow B M (w.setCell ⟨g, j, none⟩ (.bool x)) T (.slice (some ⟨g, 0, none⟩) n c) (l.set j x) := by
  subst hn; exact Ow.set rfl h hM (u := .bool x) rfl

/-- Numbers and truth values stay where the blocks below B' stay. -/
theorem Ow.upto {l : List Int} {B' : Nat} (h : Ow B M w T v l) (hb : Below B' w w') (hk : ∀ k, v.ownBlock = some k → k < B') : Ow B M w' T v l := by
  obtain ⟨xs, h1, h2⟩ := h
  exact ⟨xs, ownsRow_same h1 fun k hk' => hb.block k (hk k hk'), fun j x hj => h2 j x hj⟩
theorem Ow.uptob {l : List Bool} {B' : Nat} (h : Ow B M w T v l) (hb : Below B' w w') (hk : ∀ k, v.ownBlock = some k → k < B') : Ow B M w' T v l := by
  obtain ⟨xs, h1, h2⟩ := h
  exact ⟨xs, ownsRow_same h1 fun k hk' => hb.block k (hk k hk'), fun j x hj => h2 j x hj⟩
theorem Ow.setOtherI {l : List Int} (h : Ow B M w T v l) {p : Addr} (hne : ∀ k, v.ownBlock = some k → k ≠ p.block) (u : Value) : Ow B M (w.setCell p u) T v l := by
  obtain ⟨xs, h1, h2⟩ := h
  exact ⟨xs, ownsRow_same h1 fun k hk' => Below.heap_setCell _ _ _ _ (hne k hk'), fun j x hj => h2 j x hj⟩
theorem Ow.setOtherB {l : List Bool} (h : Ow B M w T v l) {p : Addr} (hne : ∀ k, v.ownBlock = some k → k ≠ p.block) (u : Value) : Ow B M (w.setCell p u) T v l := by
  obtain ⟨xs, h1, h2⟩ := h
  exact ⟨xs, ownsRow_same h1 fun k hk' => Below.heap_setCell _ _ _ _ (hne k hk'), fun j x hj => h2 j x hj⟩
/-- An empty slice that is not nil. -/
theorem Ow.zero {α : Type} [GR α] (hB : B ≤ w.heap.size) : Ow B M (w.alloc (.cells #[] T)) T (.slice (some ⟨w.heap.size, 0, none⟩) 0 0) ([] : List α) :=
  ⟨[], World.ownsRow_lit w #[] 0 hB (by unfold maxLen; omega) (by simp), fun j y hj => by simp at hj⟩
/-- A slice of one number, written out. -/
theorem Ow.one {x : Int} (hx : i64 x) (hB : B ≤ w.heap.size) : Ow B M (w.alloc (.cells #[.int .i64 x] T)) T (.slice (some ⟨w.heap.size, 0, none⟩) 1 1) [x] := by
  refine ⟨[.int .i64 x], ?_, fun j y hj => ?_⟩
  · exact World.ownsRow_lit w #[.int .i64 x] 1 hB (by unfold maxLen; omega) (by simp [GR.sz])
  · match j, hj with
    | 0, hj => simp at hj; subst hj; exact ⟨rfl, hx⟩

/-- The block that a slice with elements leads to. -/
theorem Sl.lt {α : Type} [GR α] {l : List α} {b off : Nat} (h : Sl M w (some ⟨b, off, none⟩) c l) {j : Nat} (hj : j < l.length) : b < w.heap.size := by
  obtain ⟨b', off', cs, ha, hb, _⟩ := h.2.2 j l[j] (by simp [hj])
  simp at ha
  rw [ha.1]; exact hb

theorem rep_int {M : Nat → Prop} {w : World} {x : Int} (h : i64 x) : GR.rep M w [.int .i64 x] x := ⟨rfl, h⟩
theorem rep_bool {M : Nat → Prop} {w : World} {x : Bool} : GR.rep M w [.bool x] x := rfl
theorem rep_slice {α : Type} [GR α] {M : Nat → Prop} {w : World} {a : Option Addr} {c : Nat} {l : List α} (h : Sl M w a c l) : GR.rep M w [.slice a l.length c] l := ⟨a, c, rfl, h⟩

end
end Go.Proofs.Ytlgdijgfphedpaa
