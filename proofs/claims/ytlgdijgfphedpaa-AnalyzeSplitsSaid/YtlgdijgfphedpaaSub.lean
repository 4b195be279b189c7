/- The subject of a search in memory: a struct of ten cells and its two own lists. No condition. -/
import Derived.Test.YtlgdijgfphedpaaSt3
namespace Go.Proofs.Ytlgdijgfphedpaa
open Go.RowKit

/-- The states before each symbol, and the last one. -/
def Sj.sts (x : Sj) (k : Nat) : List Int := (List.range (k + 1)).map x.st
theorem Sj.sts_len (x : Sj) (k : Nat) : (x.sts k).length = k + 1 := by unfold Sj.sts; simp
theorem Sj.sts_succ (x : Sj) (k : Nat) : x.sts (k + 1) = x.sts k ++ [x.st (k + 1)] := by unfold Sj.sts; rw [List.range_succ (n := k + 1), List.map_append]; rfl
theorem Sj.sts_get {x : Sj} {k i : Nat} (h : i ≤ k) : (x.sts k)[i]? = some (x.st i) := by
  unfold Sj.sts
  rw [List.getElem?_map, List.getElem?_range (by omega)]; rfl

/-- The ten cells. -/
abbrev suO (x : Sj) (an : Option Addr) (cn : Nat) (ao : Option Addr) (co : Nat) (ac : Option Addr) (cc : Nat) (a : Option Addr) (c : Nat) (b : Option Addr) (d : Nat) (vS vO : Value) : Obj :=
  .cells #[.int .i64 x.h.m.inputs, .int .i64 x.h.m.start, .slice an x.h.m.next.length cn, .slice ao x.h.m.out.length co, .slice ac x.h.acc.length cc, .int .i64 x.o.inputs, .slice a x.o.traces.length c, .slice b x.w.length d, vS, vO] 96

/-- The struct while its lists grow. -/
structure SuI (B g : Nat) (w : World) (x : Sj) (an : Option Addr) (cn : Nat) (ao : Option Addr) (co : Nat) (ac : Option Addr) (cc : Nat) (a : Option Addr) (c : Nat) (b : Option Addr) (d : Nat)
    (aS : Option Addr) (cS : Nat) (lS : List Int) (aO : Option Addr) (cO : Nat) (lO : List Int) : Prop where
  g0 : B ≤ g
  g1 : g < w.heap.size
  obj : w.heap[g]? = some (suO x an cn ao co ac cc a c b d (.slice aS lS.length cS) (.slice aO lO.length cO))
  os : Ow B (fun _ => True) w 3 (.slice aS lS.length cS) lS
  oo : Ow B (fun _ => True) w 3 (.slice aO lO.length cO) lO
  nS : ∀ k, (Value.slice aS lS.length cS).ownBlock = some k → k ≠ g
  nO : ∀ k, (Value.slice aO lO.length cO).ownBlock = some k → k ≠ g
  nSO : ∀ k, (Value.slice aS lS.length cS).ownBlock = some k → (Value.slice aO lO.length cO).ownBlock ≠ some k

section
variable {B g : Nat} {w w' : World} {x : Sj} {an ao ac a b aS aO a' : Option Addr} {cn co cc c d cS cO c' : Nat} {lS lO l' : List Int}

theorem SuI.later (h : SuI B g w x an cn ao co ac cc a c b d aS cS lS aO cO lO) (hb : Below w.heap.size w w') : SuI B g w' x an cn ao co ac cc a c b d aS cS lS aO cO lO :=
  ⟨h.g0, Nat.lt_of_lt_of_le h.g1 hb.size, (hb.block g h.g1).trans h.obj, h.os.below hb, h.oo.below hb, h.nS, h.nO, h.nSO⟩
theorem SuI.alloc (h : SuI B g w x an cn ao co ac cc a c b d aS cS lS aO cO lO) (o : Obj) : SuI B g (w.alloc o) x an cn ao co ac cc a c b d aS cS lS aO cO lO := h.later ((Below.refl _ _).alloc (Nat.le_refl _) o)
theorem SuI.drewN (h : SuI B g w x an cn ao co ac cc a c b d aS cS lS aO cO lO) (n : Nat) : SuI B g (w.drewN n) x an cn ao co ac cc a c b d aS cS lS aO cO lO := h.later (below_drewN _ _ _)
theorem SuI.drew (h : SuI B g w x an cn ao co ac cc a c b d aS cS lS aO cO lO) : SuI B g w.drew x an cn ao co ac cc a c b d aS cS lS aO cO lO := h.later (Below.refl _ _).drew

/-- What may be read of the struct. -/
theorem SuI.cells (h : SuI B g w x an cn ao co ac cc a c b d aS cS lS aO cO lO) :
    (H5 w g an cn ao co ac cc x.h ∧ w.cell? ⟨g, 5, none⟩ = some (.int .i64 x.o.inputs) ∧ w.cell? ⟨g, 6, none⟩ = some (.slice a x.o.traces.length c) ∧ w.cell? ⟨g, 7, none⟩ = some (.slice b x.w.length d) ∧ w.cell? ⟨g, 8, none⟩ = some (.slice aS lS.length cS) ∧ w.cell? ⟨g, 9, none⟩ = some (.slice aO lO.length cO)) ∧
    ∀ o, w.frozen? ⟨g, o, none⟩ = false := by
  have e := h.obj
  refine ⟨⟨⟨⟨?_, ?_, ?_, ?_⟩, ?_⟩, ?_, ?_, ?_, ?_, ?_⟩, fun o => frozen_of_row _ _ _ _ _ e⟩ <;> rw [cell_of_row _ _ _ _ _ _ e] <;> rfl

/-- The outputs grown by one, and stored. -/
theorem SuI.pushO (h : SuI B g w x an cn ao co ac cc a c b d aS cS lS aO cO lO) (hO : Ow B (fun _ => True) w' 3 (.slice a' l'.length c') l')
    (hk : ∀ k, (Value.slice a' l'.length c').ownBlock = some k → ((Value.slice aO lO.length cO).ownBlock = some k ∨ k = w.heap.size) ∧ k < w'.heap.size) (hg : w.grownBy w' (Value.slice aO lO.length cO).ownBlock) :
    SuI B g (w'.setCell ⟨g, 9, none⟩ (.slice a' l'.length c')) x an cn ao co ac cc a c b d aS cS lS a' c' l' ∧ Below B w (w'.setCell ⟨g, 9, none⟩ (.slice a' l'.length c')) := by
  have hb : Below B w w' := Below.grown (Below.refl B w) hg (Nat.le_of_lt (Nat.lt_of_le_of_lt h.g0 h.g1)) fun k hk2 => (h.oo.lt k hk2).1
  have hgo : w'.heap[g]? = w.heap[g]? := hg.block g h.g1 fun e => h.nO g e.symm rfl
  have ha : ∀ k, (Value.slice a' l'.length c').ownBlock = some k → k ≠ g := fun k e => by
    rcases (hk k e).1 with e2 | e2
    · exact h.nO k e2
    · have := h.g1; omega
  refine ⟨⟨h.g0, by simpa [World.setCell] using Nat.lt_of_lt_of_le h.g1 hb.size, ?_, ?_, hO.setOtherI (p := ⟨g, 9, none⟩) ha _, h.nS, ha, fun k e e2 => ?_⟩, hb.setCell (p := ⟨g, 9, none⟩) h.g0 _⟩
  · rw [heap_setCell_same _ _ _ _ _ _ (hgo.trans h.obj)]; rfl
  · exact (h.os.kept hb.size fun k e => hg.block k (h.os.lt k e).2 fun e2 => h.nSO k e e2.symm).setOtherI (p := ⟨g, 9, none⟩) h.nS _
  · rcases (hk k e2).1 with e3 | e3
    · exact h.nSO k e e3
    · have := (h.os.lt k e).2; omega
/-- The states grown by one, and stored. -/
theorem SuI.pushS (h : SuI B g w x an cn ao co ac cc a c b d aS cS lS aO cO lO) (hO : Ow B (fun _ => True) w' 3 (.slice a' l'.length c') l')
    (hk : ∀ k, (Value.slice a' l'.length c').ownBlock = some k → ((Value.slice aS lS.length cS).ownBlock = some k ∨ k = w.heap.size) ∧ k < w'.heap.size) (hg : w.grownBy w' (Value.slice aS lS.length cS).ownBlock) :
    SuI B g (w'.setCell ⟨g, 8, none⟩ (.slice a' l'.length c')) x an cn ao co ac cc a c b d a' c' l' aO cO lO ∧ Below B w (w'.setCell ⟨g, 8, none⟩ (.slice a' l'.length c')) := by
  have hb : Below B w w' := Below.grown (Below.refl B w) hg (Nat.le_of_lt (Nat.lt_of_le_of_lt h.g0 h.g1)) fun k hk2 => (h.os.lt k hk2).1
  have hgo : w'.heap[g]? = w.heap[g]? := hg.block g h.g1 fun e => h.nS g e.symm rfl
  have ha : ∀ k, (Value.slice a' l'.length c').ownBlock = some k → k ≠ g := fun k e => by
    rcases (hk k e).1 with e2 | e2
    · exact h.nS k e2
    · have := h.g1; omega
  refine ⟨⟨h.g0, by simpa [World.setCell] using Nat.lt_of_lt_of_le h.g1 hb.size, ?_, hO.setOtherI (p := ⟨g, 8, none⟩) ha _, ?_, ha, h.nO, fun k e e2 => ?_⟩, hb.setCell (p := ⟨g, 8, none⟩) h.g0 _⟩
  · rw [heap_setCell_same _ _ _ _ _ _ (hgo.trans h.obj)]; rfl
  · exact (h.oo.kept hb.size fun k e => hg.block k (h.oo.lt k e).2 fun e2 => h.nSO k e2.symm e).setOtherI (p := ⟨g, 8, none⟩) h.nO _
  · rcases (hk k e).1 with e3 | e3
    · exact h.nSO k e3 e2
    · have := (h.oo.lt k e2).2; omega
end
end Go.Proofs.Ytlgdijgfphedpaa
