/- A machine that a call builds row by row: a local struct with two slices of rows. No condition. -/
import Derived.Test.YtlgdijgfphedpaaOps
namespace Go.Proofs.Ytlgdijgfphedpaa
open Go.RowKit

theorem Ow.subM {α : Type} [GR α] {B : Nat} {M M' : Nat → Prop} {w : World} {T : TypeId} {v : Value} {l : List α} (h : Ow B M w T v l) (hs : ∀ k, k < w.heap.size → M' k → M k) : Ow B M' w T v l :=
  h.ext (Ext.sub_only hs) fun _ _ => rfl

/-- The struct in block bo, its two slices of rows; what lies below B0 or is being written is in M. -/
structure Mk (B0 : Nat) (M : Nat → Prop) (w : World) (bo : Nat) (inp st : Int) (aN : Option Addr) (cN : Nat) (rN : List (List Int)) (aO : Option Addr) (cO : Nat) (rO : List (List Int)) : Prop where
  old : ∀ q, q < B0 → M q
  mbo : M bo
  blk : w.heap[bo]? = some (.cells #[.int .i64 inp, .int .i64 st, .slice aN rN.length cN, .slice aO rO.length cO] 24 (0, 0))
  n : Ow B0 M w 30 (.slice aN rN.length cN) rN
  o : Ow B0 M w 30 (.slice aO rO.length cO) rO
  mn : ∀ k, (Value.slice aN rN.length cN).ownBlock = some k → M k ∧ k ≠ bo
  mo : ∀ k, (Value.slice aO rO.length cO).ownBlock = some k → M k ∧ k ≠ bo
  no : ∀ k k', (Value.slice aN rN.length cN).ownBlock = some k → (Value.slice aO rO.length cO).ownBlock = some k' → k ≠ k'
  b0 : B0 ≤ bo
  lt : ∀ q, B0 ≤ q → M q → q < w.heap.size

section
variable {B0 : Nat} {M M' : Nat → Prop} {w w' : World} {bo : Nat} {inp st : Int} {aN : Option Addr} {cN : Nat} {rN : List (List Int)} {aO : Option Addr} {cO : Nat} {rO : List (List Int)}

theorem Mk.bolt (h : Mk B0 M w bo inp st aN cN rN aO cO rO) : bo < w.heap.size := h.lt bo h.b0 h.mbo

theorem Mk.ext (h : Mk B0 M w bo inp st aN cN rN aO cO rO) (e : Ext M M w w') (hb : ∀ k, B0 ≤ k → M k → w'.heap[k]? = w.heap[k]?) : Mk B0 M w' bo inp st aN cN rN aO cO rO :=
  ⟨h.old, h.mbo, (hb _ h.b0 h.mbo).trans h.blk, h.n.ext e (fun k hk => hb k (h.n.lt k hk).1 (h.mn k hk).1), h.o.ext e (fun k hk => hb k (h.o.lt k hk).1 (h.mo k hk).1), h.mn, h.mo, h.no, h.b0, fun q h1 h2 => Nat.lt_of_lt_of_le (h.lt q h1 h2) e.size⟩

theorem Mk.below (h : Mk B0 M w bo inp st aN cN rN aO cO rO) (hb : Below w.heap.size w w') : Mk B0 M w' bo inp st aN cN rN aO cO rO :=
  h.ext (Ext.of_below hb) fun k h1 h2 => hb.block k (h.lt k h1 h2)
theorem Mk.alloc (h : Mk B0 M w bo inp st aN cN rN aO cO rO) (o : Obj) : Mk B0 M (w.alloc o) bo inp st aN cN rN aO cO rO := h.below ((Below.refl _ _).alloc (Nat.le_refl _) o)
theorem Mk.drewN (h : Mk B0 M w bo inp st aN cN rN aO cO rO) (n : Nat) : Mk B0 M (w.drewN n) bo inp st aN cN rN aO cO rO := h.below (below_drewN _ _ _)
theorem Mk.drew (h : Mk B0 M w bo inp st aN cN rN aO cO rO) : Mk B0 M w.drew bo inp st aN cN rN aO cO rO := h.below ((Below.refl _ _).drew)

/-- A block that did not belong to it may be written from now on. -/
theorem Mk.open (h : Mk B0 M w bo inp st aN cN rN aO cO rO) {g : Nat} (hg : w.heap.size ≤ g) (hb : Below w.heap.size w w') (hg2 : g < w'.heap.size) : Mk B0 (fun k => M k ∨ k = g) w' bo inp st aN cN rN aO cO rO := by
  have e : Ext M (fun k => M k ∨ k = g) w w' := ⟨hb.size, fun k hk _ => hb.block k hk, fun k hk hm => hm.elim id (fun e => by omega)⟩
  have hbl : ∀ k, B0 ≤ k → M k → w'.heap[k]? = w.heap[k]? := fun k h1 h2 => hb.block k (h.lt k h1 h2)
  exact ⟨fun q hq => .inl (h.old q hq), .inl h.mbo, (hbl _ h.b0 h.mbo).trans h.blk, h.n.ext e (fun k hk => hbl k (h.n.lt k hk).1 (h.mn k hk).1), h.o.ext e (fun k hk => hbl k (h.o.lt k hk).1 (h.mo k hk).1),
    fun k hk => ⟨.inl (h.mn k hk).1, (h.mn k hk).2⟩, fun k hk => ⟨.inl (h.mo k hk).1, (h.mo k hk).2⟩, h.no, h.b0, fun q h1 h2 => h2.elim (fun h3 => Nat.lt_of_lt_of_le (h.lt q h1 h3) hb.size) (fun e => e ▸ hg2)⟩

/-- A store into such a block. -/
theorem Mk.write {g : Nat} (h : Mk B0 (fun k => M k ∨ k = g) w bo inp st aN cN rN aO cO rO) (hM : ¬ M g) (hbo : M bo) (hn : ∀ k, (Value.slice aN rN.length cN).ownBlock = some k → M k) (ho : ∀ k, (Value.slice aO rO.length cO).ownBlock = some k → M k) (j : Nat) (u : Value) :
    Mk B0 (fun k => M k ∨ k = g) (w.setCell ⟨g, j, none⟩ u) bo inp st aN cN rN aO cO rO := by
  have e : Ext (fun k => M k ∨ k = g) (fun k => M k ∨ k = g) w (w.setCell ⟨g, j, none⟩ u) := Ext.setCell w (p := ⟨g, j, none⟩) (.inr rfl) u
  have hb : ∀ k, M k → (w.setCell ⟨g, j, none⟩ u).heap[k]? = w.heap[k]? := fun k hk => Below.heap_setCell _ _ _ _ (fun e => hM (by simp at e; exact e ▸ hk))
  exact ⟨h.old, h.mbo, (hb _ hbo).trans h.blk, h.n.ext e (fun k hk => hb k (hn k hk)), h.o.ext e (fun k hk => hb k (ho k hk)), h.mn, h.mo, h.no, h.b0, fun q h1 h2 => by have := h.lt q h1 h2; simpa [World.setCell] using this⟩

/-- The block is closed again. -/
theorem Mk.close {g : Nat} (h : Mk B0 (fun k => M k ∨ k = g) w bo inp st aN cN rN aO cO rO) (hold : ∀ q, q < B0 → M q) (hbo : M bo) (hn : ∀ k, (Value.slice aN rN.length cN).ownBlock = some k → M k) (ho : ∀ k, (Value.slice aO rO.length cO).ownBlock = some k → M k) :
    Mk B0 M w bo inp st aN cN rN aO cO rO :=
  ⟨hold, hbo, h.blk, h.n.subM (fun _ _ hm => .inl hm), h.o.subM (fun _ _ hm => .inl hm), fun k hk => ⟨hn k hk, (h.mn k hk).2⟩, fun k hk => ⟨ho k hk, (h.mo k hk).2⟩, h.no, h.b0, fun q h1 h2 => h.lt q h1 (.inl h2)⟩

/-- A row is appended to the first slice, and the slice stored into its field. -/
theorem Mk.pushN (h : Mk B0 M w bo inp st aN cN rN aO cO rO) {a' : Option Addr} {c' : Nat} {l' : List (List Int)} (ho : Ow B0 (fun k => M k ∨ k = w.heap.size) w' 30 (.slice a' l'.length c') l')
    (hb : ∀ k, (Value.slice a' l'.length c').ownBlock = some k → (Value.slice aN rN.length cN).ownBlock = some k ∨ k = w.heap.size) (hgr : w.grownBy w' (Value.slice aN rN.length cN).ownBlock) (hsz : ∀ k, (Value.slice a' l'.length c').ownBlock = some k → k < w'.heap.size) :
    Mk B0 (fun k => M k ∨ (k = w.heap.size ∧ k < w'.heap.size)) (w'.setCell ⟨bo, 2, none⟩ (.slice a' l'.length c')) bo inp st a' c' l' aO cO rO := by
  have hbolt := h.bolt
  have hnbo : some bo ≠ (Value.slice aN rN.length cN).ownBlock := fun e => (h.mn bo e.symm).2 rfl
  have hbok : w'.heap[bo]? = w.heap[bo]? := hgr.block bo hbolt hnbo
  have hown' : ∀ k, (Value.slice a' l'.length c').ownBlock = some k → k ≠ bo := by
    intro k hk e
    rcases hb k hk with h1 | h1
    · exact (h.mn k h1).2 e
    · omega
  have e1 : Ext M (fun k => M k ∨ (k = w.heap.size ∧ k < w'.heap.size)) w w' := ⟨hgr.size, fun k hk hm => hgr.block k hk (fun e => hm (h.mn k e.symm).1), fun k hk hm => hm.elim id (fun e => by omega)⟩
  have e2 : Ext (fun k => M k ∨ k = w.heap.size) (fun k => M k ∨ (k = w.heap.size ∧ k < w'.heap.size)) w' (w'.setCell ⟨bo, 2, none⟩ (.slice a' l'.length c')) :=
    (Ext.setCell w' (p := ⟨bo, 2, none⟩) (.inl h.mbo) _).trans (Ext.sub_only fun k _ hm => hm.elim .inl (fun e => .inr e.1))
  have e3 : Ext (fun k => M k ∨ (k = w.heap.size ∧ k < w'.heap.size)) (fun k => M k ∨ (k = w.heap.size ∧ k < w'.heap.size)) w' (w'.setCell ⟨bo, 2, none⟩ (.slice a' l'.length c')) := Ext.setCell w' (p := ⟨bo, 2, none⟩) (.inl h.mbo) _
  refine ⟨fun q hq => .inl (h.old q hq), .inl h.mbo, ?_, ?_, ?_, fun k hk => ⟨?_, hown' k hk⟩, fun k hk => ⟨.inl (h.mo k hk).1, (h.mo k hk).2⟩, fun k k' hk hk' => ?_, h.b0, fun q h1 h2 => ?_⟩
  · rw [heap_setCell_same _ _ _ _ _ _ (hbok.trans h.blk)]
    rfl
  · exact ho.ext e2 fun k hk => Below.heap_setCell _ _ _ _ (hown' k hk)
  · refine (h.o.ext e1 fun k hk => hgr.block k (h.o.lt k hk).2 (fun e => h.no k k e.symm hk rfl)).ext e3 fun k hk => Below.heap_setCell _ _ _ _ (h.mo k hk).2
  · rcases hb k hk with h1 | h1
    · exact .inl (h.mn k h1).1
    · exact .inr ⟨h1, hsz k hk⟩
  · rcases hb k hk with h1 | h1
    · exact h.no k k' h1 hk'
    · have := (h.o.lt k' hk').2; omega
  · have : q < w'.heap.size := h2.elim (fun h3 => Nat.lt_of_lt_of_le (h.lt q h1 h3) hgr.size) (fun h3 => h3.2)
    simpa [World.setCell] using this

/-- .. to the second slice. -/
theorem Mk.pushO (h : Mk B0 M w bo inp st aN cN rN aO cO rO) {a' : Option Addr} {c' : Nat} {l' : List (List Int)} (ho : Ow B0 (fun k => M k ∨ k = w.heap.size) w' 30 (.slice a' l'.length c') l')
    (hb : ∀ k, (Value.slice a' l'.length c').ownBlock = some k → (Value.slice aO rO.length cO).ownBlock = some k ∨ k = w.heap.size) (hgr : w.grownBy w' (Value.slice aO rO.length cO).ownBlock) (hsz : ∀ k, (Value.slice a' l'.length c').ownBlock = some k → k < w'.heap.size) :
    Mk B0 (fun k => M k ∨ (k = w.heap.size ∧ k < w'.heap.size)) (w'.setCell ⟨bo, 3, none⟩ (.slice a' l'.length c')) bo inp st aN cN rN a' c' l' := by
  have hbolt := h.bolt
  have hnbo : some bo ≠ (Value.slice aO rO.length cO).ownBlock := fun e => (h.mo bo e.symm).2 rfl
  have hbok : w'.heap[bo]? = w.heap[bo]? := hgr.block bo hbolt hnbo
  have hown' : ∀ k, (Value.slice a' l'.length c').ownBlock = some k → k ≠ bo := by
    intro k hk e
    rcases hb k hk with h1 | h1
    · exact (h.mo k h1).2 e
    · omega
  have e1 : Ext M (fun k => M k ∨ (k = w.heap.size ∧ k < w'.heap.size)) w w' := ⟨hgr.size, fun k hk hm => hgr.block k hk (fun e => hm (h.mo k e.symm).1), fun k hk hm => hm.elim id (fun e => by omega)⟩
  have e2 : Ext (fun k => M k ∨ k = w.heap.size) (fun k => M k ∨ (k = w.heap.size ∧ k < w'.heap.size)) w' (w'.setCell ⟨bo, 3, none⟩ (.slice a' l'.length c')) :=
    (Ext.setCell w' (p := ⟨bo, 3, none⟩) (.inl h.mbo) _).trans (Ext.sub_only fun k _ hm => hm.elim .inl (fun e => .inr e.1))
  have e3 : Ext (fun k => M k ∨ (k = w.heap.size ∧ k < w'.heap.size)) (fun k => M k ∨ (k = w.heap.size ∧ k < w'.heap.size)) w' (w'.setCell ⟨bo, 3, none⟩ (.slice a' l'.length c')) := Ext.setCell w' (p := ⟨bo, 3, none⟩) (.inl h.mbo) _
  refine ⟨fun q hq => .inl (h.old q hq), .inl h.mbo, ?_, ?_, ?_, fun k hk => ⟨.inl (h.mn k hk).1, (h.mn k hk).2⟩, fun k hk => ⟨?_, hown' k hk⟩, fun k k' hk hk' => ?_, h.b0, fun q h1 h2 => ?_⟩
  · rw [heap_setCell_same _ _ _ _ _ _ (hbok.trans h.blk)]
    rfl
  · refine (h.n.ext e1 fun k hk => hgr.block k (h.n.lt k hk).2 (fun e => h.no k k hk e.symm rfl)).ext e3 fun k hk => Below.heap_setCell _ _ _ _ (h.mn k hk).2
  · exact ho.ext e2 fun k hk => Below.heap_setCell _ _ _ _ (hown' k hk)
  · rcases hb k hk with h1 | h1
    · exact .inl (h.mo k h1).1
    · exact .inr ⟨h1, hsz k hk⟩
  · rcases hb k' hk' with h1 | h1
    · exact h.no k k' hk h1
    · have := (h.n.lt k hk).2; omega
  · have : q < w'.heap.size := h2.elim (fun h3 => Nat.lt_of_lt_of_le (h.lt q h1 h3) hgr.size) (fun h3 => h3.2)
    simpa [World.setCell] using this

/-- A cell of the struct. -/
theorem Mk.cells (h : Mk B0 M w bo inp st aN cN rN aO cO rO) : w.cell? ⟨bo, 0, none⟩ = some (.int .i64 inp) ∧ w.cell? ⟨bo, 1, none⟩ = some (.int .i64 st) ∧ w.cell? ⟨bo, 2, none⟩ = some (.slice aN rN.length cN) ∧ w.cell? ⟨bo, 3, none⟩ = some (.slice aO rO.length cO) ∧ ∀ o, w.frozen? ⟨bo, o, none⟩ = false := by
  refine ⟨?_, ?_, ?_, ?_, fun o => frozen_of_row _ _ _ _ _ h.blk⟩ <;> rw [cell_of_row _ _ _ _ _ _ h.blk] <;> rfl

/-- Handed back: the machine in new memory. -/
theorem Mk.toMa (h : Mk B0 M w bo inp st aN cN rN aO cO rO) (h1 : i64 inp) (h2 : i64 st) {n : Nat} (hn : n ≤ B0) : Ma (fun k => k < n) w aN cN aO cO ⟨inp, st, rN, rO⟩ := by
  refine ⟨h1, h2, ?_, ?_⟩
  · exact (h.n.subM (M' := fun k => k < n) (fun k _ hk => h.old k (by omega))).toSl fun k hk hlt => by have := (h.n.lt k hk).1; omega
  · exact (h.o.subM (M' := fun k => k < n) (fun k _ hk => h.old k (by omega))).toSl fun k hk hlt => by have := (h.o.lt k hk).1; omega

/-- A new struct without rows. -/
theorem Mk.init (w : World) (inp st : Int) : Mk w.heap.size (fun k => k ≤ w.heap.size) (w.alloc (.cells #[.int .i64 inp, .int .i64 st, .slice none 0 0, .slice none 0 0] 24)) w.heap.size inp st none 0 [] none 0 [] :=
  ⟨fun q hq => Nat.le_of_lt hq, Nat.le_refl _, heap_alloc_new w _, Ow.nil, Ow.nil, fun k hk => by simp [Value.ownBlock] at hk, fun k hk => by simp [Value.ownBlock] at hk, fun k k' hk => by simp [Value.ownBlock] at hk, Nat.le_refl _,
    fun q _ h2 => by simp; omega⟩
theorem Mk.notM (h : Mk B0 M w bo inp st aN cN rN aO cO rO) {g : Nat} (hg : w.heap.size ≤ g) : ¬ M g := fun hm => by have := h.lt g (by have := h.b0; have := h.bolt; omega) hm; omega

/-- A struct of four cells stored into its place. -/
theorem set4 {w : World} {g : Nat} {x0 x1 x2 x3 y0 y1 y2 y3 : Value} {T : TypeId} (h : w.heap[g]? = some (.cells #[x0, x1, x2, x3] T (0, 0))) :
    ((((w.setCell ⟨g, 0, none⟩ y0).setCell ⟨g, 1, none⟩ y1).setCell ⟨g, 2, none⟩ y2).setCell ⟨g, 3, none⟩ y3).heap[g]? = some (.cells #[y0, y1, y2, y3] T (0, 0)) := by
  rw [heap_setCell_same _ _ _ _ _ _ (heap_setCell_same _ _ _ _ _ _ (heap_setCell_same _ _ _ _ _ _ (heap_setCell_same _ _ _ _ _ _ h)))]
  rfl
theorem cells4 {w : World} {g : Nat} {y0 y1 y2 y3 : Value} {T : TypeId} (h : w.heap[g]? = some (.cells #[y0, y1, y2, y3] T (0, 0))) :
    w.cell? ⟨g, 0, none⟩ = some y0 ∧ w.cell? ⟨g, 1, none⟩ = some y1 ∧ w.cell? ⟨g, 2, none⟩ = some y2 ∧ w.cell? ⟨g, 3, none⟩ = some y3 := by
  refine ⟨?_, ?_, ?_, ?_⟩ <;> rw [cell_of_row _ _ _ _ _ _ h] <;> rfl
end
end Go.Proofs.Ytlgdijgfphedpaa
