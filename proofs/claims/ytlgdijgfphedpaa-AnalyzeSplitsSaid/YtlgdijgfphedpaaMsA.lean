/- Several texts, one behind the other. Conditions: as each of them says. -/
import Derived.Test.YtlgdijgfphedpaaObsP
import Derived.Test.YtlgdijgfphedpaaPush
import Derived.Test.YtlgdijgfphedpaaHypD
import Derived.Test.YtlgdijgfphedpaaRowsL
import Derived.Test.YtlgdijgfphedpaaOrdT
import Derived.Test.YtlgdijgfphedpaaJoinR
import Derived.Test.YtlgdijgfphedpaaOrd
import Derived.Test.YtlgdijgfphedpaaOutsR
import Derived.Test.YtlgdijgfphedpaaFrom
import Derived.Test.YtlgdijgfphedpaaValid6
import Derived.Test.YtlgdijgfphedpaaCheckR1
import Derived.IntWalk
/- A trace added to observations: plain words. No condition. -/
namespace Go.Proofs.Ytlgdijgfphedpaa
open Go.RowKit
/-- One round: what is kept, and whether the new trace is in. -/
def addS (t x : Tr) (s : List Tr × Bool) : List Tr × Bool := if s.2 = false ∧ cmpW t.inn x.inn < 0 then (s.1 ++ [t], true) else s
def addR (t x : Tr) (s : List Tr × Bool) : List Tr × Bool :=
  if hasP t.inn x.inn = false ∨ t.inn.length = x.inn.length then ((addS t x s).1 ++ [x], (addS t x s).2) else addS t x s
def addF (t : Tr) (l : List Tr) (d : Bool) : List Tr × Bool := l.foldl (fun s x => addR t x s) ([], d)
theorem addF_succ {t : Tr} {l : List Tr} {d : Bool} {k : Nat} {x : Tr} (h : l[k]? = some x) : addF t (l.take (k + 1)) d = addR t x (addF t (l.take k) d) := by
  unfold addF
  rw [List.take_add_one, h]
  simp [List.foldl_append]
namespace Ob
variable (o : Ob)
def inside (t : Tr) (k : Nat) : Bool := decide (t.inn = []) || (o.traces.take k).any (fun x => hasP x.inn t.inn)
theorem inside_succ {t : Tr} {k : Nat} {x : Tr} (h : o.traces[k]? = some x) : o.inside t (k + 1) = (o.inside t k || hasP x.inn t.inn) := by
  unfold inside
  rw [List.take_add_one, h]
  simp [List.any_append, Bool.or_assoc]
def addT (t : Tr) : List Tr :=
  let s := addF t o.traces (o.inside t o.traces.length)
  if s.2 = false then s.1 ++ [t] else s.1
def adds (t : Tr) : Ob := ⟨o.inputs, o.addT t⟩
/-- The first trace that contradicts. -/
def clash (t : Tr) (k : Nat) : Bool := (o.traces.take k).any (fun x => decide (0 ≤ x.dif t))
def addE (t : Tr) : Int :=
  if t.err o.inputs ≠ 0 then t.err o.inputs
  else if o.clash t o.traces.length = true then 13
  else if 10000 < (o.addT t).length then 11 else 0
def addO (t : Tr) : Ob := if o.addE t = 0 then o.adds t else o
variable {o}
theorem ins_0 {t : Tr} : Hid ((((t.inn.length : Nat) : Int) == 0) = o.inside t 0) := by
  unfold Hid inside
  cases t.inn <;> simp <;> omega
theorem clash_hit {t x : Tr} {k : Nat} (h : o.traces[k]? = some x) (hd : 0 ≤ x.dif t) : o.clash t o.traces.length = true := by
  unfold clash
  rw [List.take_length]
  exact List.any_eq_true.2 ⟨x, List.mem_of_getElem? h, by simpa using hd⟩
theorem clash_succ {t x : Tr} {k : Nat} (h : o.traces[k]? = some x) (hd : ¬ 0 ≤ x.dif t) (hk : o.clash t k = false) : o.clash t (k + 1) = false := by
  unfold clash at hk ⊢
  rw [List.take_add_one, h]
  simp only [List.any_append, hk, Bool.false_or]
  simpa using hd
theorem clash_all {t : Tr} {k : Nat} (hk : ¬ k < o.traces.length) (h : o.clash t k = false) : o.clash t o.traces.length = false := by
  unfold clash at h ⊢
  rw [List.take_of_length_le (by omega)] at h
  rwa [List.take_length]
theorem addE_t {t : Tr} (h : t.err o.inputs ≠ 0) : o.addE t = t.err o.inputs ∧ o.addO t = o := by
  have e : o.addE t = t.err o.inputs := by unfold addE; rw [if_pos h]
  exact ⟨e, by unfold addO; rw [if_neg (by rw [e]; exact h)]⟩
theorem addE_c {t : Tr} (h : t.err o.inputs = 0) (h2 : o.clash t o.traces.length = true) : o.addE t = 13 ∧ o.addO t = o := by
  have e : o.addE t = 13 := by unfold addE; rw [if_neg (by simp [h]), if_pos h2]
  exact ⟨e, by unfold addO; rw [if_neg (by rw [e]; decide)]⟩
theorem addE_l {t : Tr} (h : t.err o.inputs = 0) (h2 : o.clash t o.traces.length = false) (h3 : 10000 < (o.addT t).length) : o.addE t = 11 ∧ o.addO t = o := by
  have e : o.addE t = 11 := by unfold addE; rw [if_neg (by simp [h]), if_neg (by simp [h2]), if_pos h3]
  exact ⟨e, by unfold addO; rw [if_neg (by rw [e]; decide)]⟩
theorem addE_0 {t : Tr} (h : t.err o.inputs = 0) (h2 : o.clash t o.traces.length = false) (h3 : ¬ 10000 < (o.addT t).length) : o.addE t = 0 ∧ o.addO t = o.adds t := by
  have e : o.addE t = 0 := by unfold addE; rw [if_neg (by simp [h]), if_neg (by simp [h2]), if_neg h3]
  exact ⟨e, by unfold addO; rw [if_pos e]⟩
end Ob
theorem addR_len (t x : Tr) (s : List Tr × Bool) : (addR t x s).1.length ≤ s.1.length + 2 := by
  unfold addR addS
  split <;> split <;> simp
theorem addF_len (t : Tr) (d : Bool) : ∀ (l : List Tr), (addF t l d).1.length ≤ 2 * l.length := by
  intro l
  have : ∀ k, k ≤ l.length → (addF t (l.take k) d).1.length ≤ 2 * k := by
    intro k
    induction k with
    | zero => intro _; simp [addF]
    | succ k ih =>
      intro hk
      have := ih (by omega)
      rw [addF_succ (List.getElem?_eq_getElem (show k < l.length by omega))]
      have := addR_len t l[k] (addF t (l.take k) d)
      omega
  have h := this l.length (Nat.le_refl _)
  rwa [List.take_length] at h
theorem addS_mem {t x y : Tr} {s : List Tr × Bool} (hy : y ∈ (addS t x s).1) : y = t ∨ y ∈ s.1 := by
  unfold addS at hy
  split at hy
  · rcases List.mem_append.1 hy with h | h
    · exact .inr h
    · exact .inl (List.mem_singleton.1 h)
  · exact .inr hy
theorem addR_mem {t x y : Tr} {s : List Tr × Bool} (hy : y ∈ (addR t x s).1) : y = t ∨ y = x ∨ y ∈ s.1 := by
  unfold addR at hy
  split at hy
  · rcases List.mem_append.1 hy with h | h
    · rcases addS_mem h with h | h
      · exact .inl h
      · exact .inr (.inr h)
    · exact .inr (.inl (List.mem_singleton.1 h))
  · rcases addS_mem hy with h | h
    · exact .inl h
    · exact .inr (.inr h)
/-- The traces that stand there behind an addition. -/
theorem addF_mem {t : Tr} {d : Bool} {l : List Tr} {y : Tr} (hy : y ∈ (addF t l d).1) : y = t ∨ y ∈ l := by
  have : ∀ k, k ≤ l.length → y ∈ (addF t (l.take k) d).1 → y = t ∨ y ∈ l := by
    intro k
    induction k with
    | zero => intro _ h; simp [addF] at h
    | succ k ih =>
      intro hk h
      rw [addF_succ (List.getElem?_eq_getElem (show k < l.length by omega))] at h
      rcases addR_mem h with h | h | h
      · exact .inl h
      · exact .inr (h ▸ List.getElem_mem _)
      · exact ih (by omega) h
  exact this l.length (Nat.le_refl _) (by rwa [List.take_length])
theorem addT_mem {o : Ob} {t y : Tr} (h : y ∈ o.addT t) : y = t ∨ y ∈ o.traces := by
  unfold Ob.addT at h
  simp only at h
  split at h
  · simp at h
    rcases h with h | h
    · exact addF_mem h
    · exact .inl h
  · exact addF_mem h
end Go.Proofs.Ytlgdijgfphedpaa
/- A list of traces that a call owns; what lies below N may be written besides. No condition. -/
namespace Go.Proofs.Ytlgdijgfphedpaa
open Go.RowKit
/-- What may be written. -/
abbrev mayT (N : Nat) (v : Value) (k : Nat) : Prop := v.ownBlock = some k ∨ k < N
/-- The list. -/
abbrev Qt (N B : Nat) (w : World) (T : TypeId) (v : Value) (l : List Tr) : Prop := Ow B (mayT N v) w T v l
section
variable {N B : Nat} {w w' : World} {T : TypeId} {v : Value} {a : Option Addr} {c : Nat} {l : List Tr}
theorem Qt.later (h : Qt N B w T v l) (hb : Below w.heap.size w w') : Qt N B w' T v l := Ow.below h hb
/-- A store below N. -/
theorem Qt.set (h : Qt N B w T v l) {p : Addr} (hp : p.block < N) (hB : N ≤ B) (u : Value) : Qt N B (w.setCell p u) T v l :=
  h.setOther (.inr hp) (fun k hk => by have := (h.lt k hk).1; omega) u
theorem Qt.sl (h : Qt N B w T (.slice a l.length c) l) (hB : N ≤ B) : Sl (fun k => k < N) w a c l :=
  (Ow.ext h (Ext.sub_only fun _ _ hk => .inr hk) fun _ _ => rfl).toSl fun k hk hlt => by have := (h.lt k hk).1; omega
end
/-- Two cells stored. -/
abbrev st2 (w : World) (g : Nat) (y0 y1 : Value) : World := (w.setCell ⟨g, 0, none⟩ y0).setCell ⟨g, 1, none⟩ y1
section
variable {B g : Nat} {a w : World} {y0 y1 x0 x1 : Value} {T : TypeId}
theorem bel_st2 (h : Below B a w) (hg : B ≤ g) : Below B a (st2 w g y0 y1) := (h.setCell (p := ⟨g, 0, none⟩) hg y0).setCell (p := ⟨g, 1, none⟩) hg y1
theorem Sl.st2 {α : Type} [GR α] {X n : Nat} {ad : Option Addr} {c : Nat} {l : List α} (h : Sl (fun k => k < X) w ad c l) (hg : g < X) (hn : n ≤ X) : Sl (fun k => k < n) (st2 w g y0 y1) ad c l :=
  h.ext ((Ext.setCell w (p := ⟨g, 0, none⟩) hg _).trans ((Ext.setCell _ (p := ⟨g, 1, none⟩) hg _).trans (Ext.sub_only fun _ _ hk => Nat.lt_of_lt_of_le hk hn)))
theorem size_st2 : (st2 w g y0 y1).heap.size = w.heap.size := by simp [World.setCell]
theorem set2 (h : w.heap[g]? = some (.cells #[x0, x1] T (0, 0))) : (st2 w g y0 y1).heap[g]? = some (.cells #[y0, y1] T (0, 0)) := by
  show ((w.setCell ⟨g, 0, none⟩ y0).setCell ⟨g, 1, none⟩ y1).heap[g]? = _
  rw [heap_setCell_same _ _ _ _ _ _ (heap_setCell_same _ _ _ _ _ _ h)]
  rfl
theorem cells2 (h : w.heap[g]? = some (.cells #[y0, y1] T (0, 0))) : (w.cell? ⟨g, 0, none⟩ = some y0 ∧ w.cell? ⟨g, 1, none⟩ = some y1) ∧ ∀ o, w.frozen? ⟨g, o, none⟩ = false :=
  ⟨⟨by rw [cell_of_row _ _ _ _ _ _ h]; rfl, by rw [cell_of_row _ _ _ _ _ _ h]; rfl⟩, fun o => frozen_of_row _ _ _ _ _ h⟩
end
section
variable {P : Program} {w : World} {o : Oper} {a : Act} {ops : Array Oper} {rest : List Oper} {Q : Exit → Act → World → Prop}
/-- append(traces, trace). -/
theorem wp_push_tr {K : Act → World → Prop} {l : List Tr} {s x : Operand} {t e : TypeId} {N B : Nat} {z : Value} {v : Value} {g c : Nat} {q : Tr} {a1 a2 : Option Addr} {c1 c2 : Nat} (hop : o.op = .call { callee := .builtin .append, args := #[s, x], argTypes := #[t, t] })
    (ht : P.underlying t = some (.slice e)) (hi : (P.info? e).map (fun i => (i.zero, i.size, i.bytes)) = some (some z, 2, 48)) (hzs : z.cells.size = 2)
    (hs : a.eval s = v) (hx : a.eval x = .slice (some ⟨g, 0, none⟩) 1 c) (hown : Qt N B w e v l)
    (hn0 : w.cell? ⟨g, 0, none⟩ = some (.slice a1 q.inn.length c1)) (hn1 : w.cell? ⟨g, 1, none⟩ = some (.slice a2 q.out.length c2)) (hy1 : Sl (mayT N v) w a1 c1 q.inn) (hy2 : Sl (mayT N v) w a2 c2 q.out)
    (hlen : l.length < 1000000000000) (hB : B ≤ w.heap.size)
    (h : ∀ (a' : Option Addr) (c' : Nat) (l' : List Tr) (w' : World), Hid (l' = l ++ [q]) → Qt N B w' e (.slice a' l'.length c') l' → Hid (∀ k, (Value.slice a' l'.length c').ownBlock = some k → (v.ownBlock = some k ∨ k = w.heap.size) ∧ k < w'.heap.size) →
      w.grownBy w' v.ownBlock → K (a.put o.dst (.slice a' l'.length c')) w') : o.wp P a w K Q := by
  refine wp_push2 s x t hop e z 2 48 ht hi hzs (by decide) B (mayT N v) v l hs rfl hown (fun k hk => .inl hk) ⟨g, 0, none⟩ c [.slice a1 q.inn.length c1, .slice a2 q.out.length c2] q hx ⟨a1, c1, a2, c2, rfl, hy1, hy2⟩ ?_ ?_ (by omega) (by unfold maxLen; omega) hB ?_
  · intro j u hj
    match j, hj with
    | 0, hj => simp at hj; subst hj; simpa [Addr.add] using hn0
    | 1, hj => simp at hj; subst hj; simpa [Addr.add] using hn1
    | j + 2, hj => simp at hj
  · intro u hu; simp at hu; rcases hu with rfl | rfl <;> rfl
  · intro a' c' l' w' h1 h2 h3 h4
    refine h a' c' l' w' h1 (h2.ext (Ext.sub_only fun k _ hk => ?_) fun _ _ => rfl) h3 h4
    rcases hk with hk | hk
    · rcases (h3.out k hk).1 with h5 | h5
      · exact .inl (.inl h5)
      · exact .inr h5
    · exact .inl (.inr hk)
theorem wpList_push_tr {l : List Tr} {s x : Operand} {t e : TypeId} {N B : Nat} {z : Value} {v : Value} {g c : Nat} {q : Tr} {a1 a2 : Option Addr} {c1 c2 : Nat} (hg : o.guard = none) (hop : o.op = .call { callee := .builtin .append, args := #[s, x], argTypes := #[t, t] })
    (ht : P.underlying t = some (.slice e)) (hi : (P.info? e).map (fun i => (i.zero, i.size, i.bytes)) = some (some z, 2, 48)) (hzs : z.cells.size = 2)
    (hs : a.eval s = v) (hx : a.eval x = .slice (some ⟨g, 0, none⟩) 1 c) (hown : Qt N B w e v l)
    (hn0 : w.cell? ⟨g, 0, none⟩ = some (.slice a1 q.inn.length c1)) (hn1 : w.cell? ⟨g, 1, none⟩ = some (.slice a2 q.out.length c2)) (hy1 : Sl (mayT N v) w a1 c1 q.inn) (hy2 : Sl (mayT N v) w a2 c2 q.out)
    (hlen : l.length < 1000000000000) (hB : B ≤ w.heap.size)
    (h : ∀ (a' : Option Addr) (c' : Nat) (l' : List Tr) (w' : World), Hid (l' = l ++ [q]) → Qt N B w' e (.slice a' l'.length c') l' → Hid (∀ k, (Value.slice a' l'.length c').ownBlock = some k → (v.ownBlock = some k ∨ k = w.heap.size) ∧ k < w'.heap.size) →
      w.grownBy w' v.ownBlock → wpList P ops Q rest (a.put o.dst (.slice a' l'.length c')) w') : wpList P ops Q (o :: rest) a w :=
  wpList_plain hg fun _ hK => wp_push_tr hop ht hi hzs hs hx hown hn0 hn1 hy1 hy2 hlen hB fun a' c' l' w' h2 h3 h4 h5 => hK _ _ (h a' c' l' w' h2 h3 h4 h5)
end
theorem info_trace : (Try.prog.info? 61).map (fun i => (i.zero, i.size, i.bytes)) = some (some (.agg #[.slice none 0 0, .slice none 0 0]), 2, 48) := by kernel_rfl
end Go.Proofs.Ytlgdijgfphedpaa
/- The reference's copied. Condition: fewer than 10^11 numbers. Printed by wip/mkcopied.py. -/
namespace Go.Proofs.Ytlgdijgfphedpaa
open Go.RowKit
section
variable {P : Program} {Q : Exit → Act → World → Prop} {md : Region.Mode} {S : World → Prop} {L : List Nat}
/-- Two that may come up. -/
theorem wpAnyT_2 {l ri rj : List Oper} {i j : Nat} {oi oj : Oper} {fuel : Nat} {listed : Array Bool} {a : Act} {w : World} (hr : Region.ready md l.toArray listed = [i, j]) (hoi : l.drop i = oi :: ri) (hoj : l.drop j = oj :: rj)
    (hwi : Region.wanted oi (yielded l.toArray a.tmps) = true) (hwj : Region.wanted oj (yielded l.toArray a.tmps) = true)
    (hi : ∀ K : Act → World → Prop, (∀ a' w', (waitsT md l.toArray L i = false → S w') → wpAnyT P md l.toArray Q S L fuel (listed.setIfInBounds i true) a' w' → K a' w') → oi.wp P a w K Q)
    (hj : ∀ K : Act → World → Prop, (∀ a' w', (waitsT md l.toArray L j = false → S w') → wpAnyT P md l.toArray Q S L fuel (listed.setIfInBounds j true) a' w' → K a' w') → oj.wp P a w K Q) :
    wpAnyT P md l.toArray Q S L (fuel + 1) listed a w := by
  refine ⟨(fun h0 => by rw [h0] at hr; cases hr), (fun k hk => ?_)⟩
  rw [hr] at hk
  rcases List.mem_cons.1 hk with rfl | hk
  · unfold wpOp
    simp only [at_of_drop hoi, hwi, if_true]
    exact .inl (hi _ fun a' w' hS hrest => ⟨hS, hrest⟩)
  · obtain rfl : k = j := by simpa using hk
    unfold wpOp
    simp only [at_of_drop hoj, hwj, if_true]
    exact .inl (hj _ fun a' w' hS hrest => ⟨hS, hrest⟩)
end
section
variable {M M' : Nat → Prop} {w : World} {a a' : Option Addr} {c c' : Nat} {t : Tr}
set_option maxRecDepth 100000 in
set_option maxHeartbeats 4000000 in
theorem copied_any (h1 : Sl M w a c t.inn) (h2 : Sl M' w a' c' t.out) (hl1 : t.inn.length < 100000000000) (hl2 : t.out.length < 100000000000) :
    Calls Try.prog 75 #[trV t a c a' c'] w fun e w' => ∃ (a1 : Option Addr) (c1 : Nat) (l1 : List Int) (a2 : Option Addr) (c2 : Nat) (l2 : List Int), e = .returned (.agg #[.slice a1 l1.length c1, .slice a2 l2.length c2]) ∧ Hid ((⟨l1, l2⟩ : Tr) = t) ∧
      Sl (fun k => k < w.heap.size) w' a1 c1 l1 ∧ Sl (fun k => k < w.heap.size) w' a2 c2 l2 ∧ Below w.heap.size w w' := by
  have hB0 := ((Below.refl w.heap.size w).alloc (Nat.le_refl _) (trO t a c a' c')).alloc (by simp) (.cells #[.slice none 0 0, .slice none 0 0] 61)
  have hx0 : T2 ((w.alloc (trO t a c a' c')).alloc (.cells #[.slice none 0 0, .slice none 0 0] 61)) w.heap.size a c a' c' t := (t2_new w).below (B := w.heap.size + 1) ((Below.refl _ _).alloc (by simp) _) (by omega)
  have hr0 : ((w.alloc (trO t a c a' c')).alloc (.cells #[.slice none 0 0, .slice none 0 0] 61)).heap[w.heap.size + 1]? = some (.cells #[.slice none 0 0, .slice none 0 0] 61) := by
    have k := heap_alloc_new (w.alloc (trO t a c a' c')) (.cells #[.slice none 0 0, .slice none 0 0] 61)
    simpa using k
  have hz0 : w.heap.size + 2 ≤ ((w.alloc (trO t a c a' c')).alloc (.cells #[.slice none 0 0, .slice none 0 0] 61)).heap.size := by simp
  have HA := Lib.hid h1
  have HB := Lib.hid h2
  have HR := Lib.hid hr0
  clear h1 h2 hr0
  go_enter Try.func75, Try.ntmps75
  go_wp2
  refine wp_region_T (fun w' => T2 w' w.heap.size a c a' c' t) [0, 1, 4, 5, 8] (by kernel_rfl) ?_
  generalize (w.alloc (trO t a c a' c')).alloc (.cells #[.slice none 0 0, .slice none 0 0] 61) = w0 at *
  have hS_u0 := hx0.below (Below.refl w0.heap.size w0).drew (by omega)
  have hB_u0 := hB0.drew
  have hz_u0 : w.heap.size + 2 ≤ w0.drew.heap.size := hz0
  have hR_u0 : Hid (w0.drew.heap[w.heap.size + 1]? = some (.cells #[.slice none 0 0, .slice none 0 0] 61)) := HR.out
  clear hx0 hB0 hz0 HR
  generalize hgg : w0.drew = u0 at *
  clear hgg
  refine wpAnyT_take (i := 0) (v := ?v119) rfl (by kernel_rfl) (by kernel_rfl) (by kernel_rfl) (by kernel_rfl) (by kernel_rfl) (fun _ _ _ h => h) (Or.inl ⟨by rfl, ?y119⟩) (by assumption) ?r119
  case y119 => (intro w' hSw; (try dsimp only at hSw); go_simp; try with_reducible rfl)
  try simp only [Act.put, List.setIfInBounds_toArray, List.set_cons_zero, List.set_cons_succ]
  refine wpAnyT_take (i := 1) (v := ?v120) rfl (by kernel_rfl) (by kernel_rfl) (by kernel_rfl) (by kernel_rfl) (by kernel_rfl) (fun _ _ _ h => h) (Or.inl ⟨by rfl, ?y120⟩) (by assumption) ?r120
  case y120 => (intro w' hSw; (try dsimp only at hSw); go_simp; try with_reducible rfl)
  try simp only [Act.put, List.setIfInBounds_toArray, List.set_cons_zero, List.set_cons_succ]
  refine wpAnyT_take (i := 4) (v := ?v121) rfl (by kernel_rfl) (by kernel_rfl) (by kernel_rfl) (by kernel_rfl) (by kernel_rfl) (fun _ _ _ h => h) (Or.inl ⟨by rfl, ?y121⟩) (by assumption) ?r121
  case y121 => (intro w' hSw; (try dsimp only at hSw); go_simp; try with_reducible rfl)
  try simp only [Act.put, List.setIfInBounds_toArray, List.set_cons_zero, List.set_cons_succ]
  refine wpAnyT_take (i := 5) (v := ?v122) rfl (by kernel_rfl) (by kernel_rfl) (by kernel_rfl) (by kernel_rfl) (by kernel_rfl) (fun _ _ _ h => h) (Or.inl ⟨by rfl, ?y122⟩) (by assumption) ?r122
  case y122 => (intro w' hSw; (try dsimp only at hSw); go_simp; try with_reducible rfl)
  try simp only [Act.put, List.setIfInBounds_toArray, List.set_cons_zero, List.set_cons_succ]
  refine wpAnyT_2 (i := 2) (j := 6) (by kernel_rfl) rfl rfl rfl rfl (fun K hK => ?_) (fun K hK => ?_)
  · skip
    go_simp
    have hba := (Below.refl u0.heap.size u0).alloc (Nat.le_refl _) (.cells #[.slice a t.inn.length c] 30)
    have hBa := hB_u0.alloc (by omega) (.cells #[.slice a t.inn.length c] 30)
    have hS_u1 := hS_u0.below hba (by omega)
    have hz_u1 : w.heap.size + 2 ≤ (u0.alloc (.cells #[.slice a t.inn.length c] 30)).heap.size := by simp; omega
    have hR_u1 := Lib.hid ((hba.block (w.heap.size + 1) (by omega)).trans hR_u0.out)
    have LA := Lib.hid (rows1 (T := 30) (HA.out.below hB_u0) rfl)
    refine hK _ _ (fun _ => hS_u1) ?_
    clear hK K
    have hB_u1 := hBa
    clear hBa hba
    generalize hgg : u0.alloc (.cells #[.slice a t.inn.length c] 30) = u1 at *
    clear hgg
    try simp only [Act.put, List.setIfInBounds_toArray, List.set_cons_zero, List.set_cons_succ]
    refine wpAnyT_2 (i := 3) (j := 6) (by kernel_rfl) rfl rfl rfl rfl (fun K hK => ?_) (fun K hK => ?_)
    · skip
      go_simp
      refine (joinR_any LA.out (by rw [flat1]; omega)).mono ?_
      rintro e u2 ⟨a1, c1, l1, rfl, hl1, hs1, hbu2⟩
      have hS_u2 := hS_u1.below hbu2 (by omega)
      have hz_u2 : w.heap.size + 2 ≤ u2.heap.size := by have := hbu2.size; omega
      have hR_u2 := Lib.hid ((hbu2.block (w.heap.size + 1) (by omega)).trans hR_u1.out)
      have hB_u2 := hB_u1.trans (hbu2.mono (by omega))
      have HsA := Lib.hid (hs1.anti (M' := fun k => k < w.heap.size + 2) (fun k _ hk => by omega))
      have hl1 : Hid (l1 = t.inn) := by unfold Hid; rw [hl1.out, flat1]
      refine hK _ _ (fun _ => hS_u2) ?_
      clear hK K hs1 hbu2
      try simp only [Act.put, List.setIfInBounds_toArray, List.set_cons_zero, List.set_cons_succ]
      refine wpAnyT_one (i := 6) (by kernel_rfl) rfl rfl (fun K hK => ?_)
      go_simp
      have hba := (Below.refl u2.heap.size u2).alloc (Nat.le_refl _) (.cells #[.slice a' t.out.length c'] 30)
      have hBa := hB_u2.alloc (by omega) (.cells #[.slice a' t.out.length c'] 30)
      have hS_u3 := hS_u2.below hba (by omega)
      have hz_u3 : w.heap.size + 2 ≤ (u2.alloc (.cells #[.slice a' t.out.length c'] 30)).heap.size := by simp; omega
      have hR_u3 := Lib.hid ((hba.block (w.heap.size + 1) (by omega)).trans hR_u2.out)
      have LB := Lib.hid (rows1 (T := 30) (HB.out.below hB_u2) rfl)
      have HsA := Lib.hid (HsA.out.below hba)
      refine hK _ _ (fun _ => hS_u3) ?_
      clear hK K
      have hB_u3 := hBa
      clear hBa hba
      generalize hgg : u2.alloc (.cells #[.slice a' t.out.length c'] 30) = u3 at *
      clear hgg
      try simp only [Act.put, List.setIfInBounds_toArray, List.set_cons_zero, List.set_cons_succ]
      refine wpAnyT_one (i := 7) (by kernel_rfl) rfl rfl (fun K hK => ?_)
      go_simp
      refine (joinR_any LB.out (by rw [flat1]; omega)).mono ?_
      rintro e u4 ⟨a2, c2, l2, rfl, hl2, hs2, hbu4⟩
      have hS_u4 := hS_u3.below hbu4 (by omega)
      have hz_u4 : w.heap.size + 2 ≤ u4.heap.size := by have := hbu4.size; omega
      have hR_u4 := Lib.hid ((hbu4.block (w.heap.size + 1) (by omega)).trans hR_u3.out)
      have hB_u4 := hB_u3.trans (hbu4.mono (by omega))
      have HsB := Lib.hid (hs2.anti (M' := fun k => k < w.heap.size + 2) (fun k _ hk => by omega))
      have hl2 : Hid (l2 = t.out) := by unfold Hid; rw [hl2.out, flat1]
      have HsA := Lib.hid (HsA.out.below hbu4)
      refine hK _ _ (fun _ => hS_u4) ?_
      clear hK K hs2 hbu4
      try simp only [Act.put, List.setIfInBounds_toArray, List.set_cons_zero, List.set_cons_succ]
      refine wpAnyT_take (i := 8) (v := ?v123) rfl (by kernel_rfl) (by kernel_rfl) (by kernel_rfl) (by kernel_rfl) (by kernel_rfl) (fun _ _ _ h => h) (Or.inl ⟨by rfl, ?y123⟩) (by assumption) ?r123
      case y123 => (intro w' hSw; (try dsimp only at hSw); go_simp; try with_reducible rfl)
      try simp only [Act.put, List.setIfInBounds_toArray, List.set_cons_zero, List.set_cons_succ]
      have HsAn := Lib.hid (HsA.out.st2 (n := w.heap.size) (g := w.heap.size + 1) (y0 := .slice a1 l1.length c1) (y1 := .slice a2 l2.length c2) (by omega) (by omega))
      have HsBn := Lib.hid (HsB.out.st2 (n := w.heap.size) (g := w.heap.size + 1) (y0 := .slice a1 l1.length c1) (y1 := .slice a2 l2.length c2) (by omega) (by omega))
      have HBn := Lib.hid (bel_st2 hB_u4 (g := w.heap.size + 1) (y0 := .slice a1 l1.length c1) (y1 := .slice a2 l2.length c2) (by omega))
      have HRn := Lib.hid (set2 (y0 := .slice a1 l1.length c1) (y1 := .slice a2 l2.length c2) hR_u4.out)
      obtain ⟨⟨k0, k1⟩, kf⟩ := cells2 hR_u4.out
      refine wpAnyT_late (i := 9) (by kernel_rfl) (by kernel_rfl) rfl rfl (fun K hK => ?_)
      go_simp
      refine hK _ _ ?_
      clear hK K k0 k1 kf
      refine wpAnyT_done (by kernel_rfl) ?_ _
      obtain ⟨⟨q0, q1⟩, -⟩ := cells2 HRn.out
      go_wp2
      exact bodyPost_ret (v := .agg #[.slice a1 l1.length c1, .slice a2 l2.length c2]) (by simp [results, Try.results75, go_sem, q0, q1]) rfl ⟨a1, c1, l1, a2, c2, l2, rfl, by unfold Hid; rw [hl1.out, hl2.out], HsAn.out, HsBn.out, HBn.out⟩
    · skip
      go_simp
      have hba := (Below.refl u1.heap.size u1).alloc (Nat.le_refl _) (.cells #[.slice a' t.out.length c'] 30)
      have hBa := hB_u1.alloc (by omega) (.cells #[.slice a' t.out.length c'] 30)
      have hS_u2 := hS_u1.below hba (by omega)
      have hz_u2 : w.heap.size + 2 ≤ (u1.alloc (.cells #[.slice a' t.out.length c'] 30)).heap.size := by simp; omega
      have hR_u2 := Lib.hid ((hba.block (w.heap.size + 1) (by omega)).trans hR_u1.out)
      have LB := Lib.hid (rows1 (T := 30) (HB.out.below hB_u1) rfl)
      have LA := Lib.hid (LA.out.below hba)
      refine hK _ _ (fun _ => hS_u2) ?_
      clear hK K
      have hB_u2 := hBa
      clear hBa hba
      generalize hgg : u1.alloc (.cells #[.slice a' t.out.length c'] 30) = u2 at *
      clear hgg
      try simp only [Act.put, List.setIfInBounds_toArray, List.set_cons_zero, List.set_cons_succ]
      refine wpAnyT_one (i := 3) (by kernel_rfl) rfl rfl (fun K hK => ?_)
      go_simp
      refine (joinR_any LA.out (by rw [flat1]; omega)).mono ?_
      rintro e u3 ⟨a1, c1, l1, rfl, hl1, hs1, hbu3⟩
      have hS_u3 := hS_u2.below hbu3 (by omega)
      have hz_u3 : w.heap.size + 2 ≤ u3.heap.size := by have := hbu3.size; omega
      have hR_u3 := Lib.hid ((hbu3.block (w.heap.size + 1) (by omega)).trans hR_u2.out)
      have hB_u3 := hB_u2.trans (hbu3.mono (by omega))
      have HsA := Lib.hid (hs1.anti (M' := fun k => k < w.heap.size + 2) (fun k _ hk => by omega))
      have hl1 : Hid (l1 = t.inn) := by unfold Hid; rw [hl1.out, flat1]
      have LB := Lib.hid (LB.out.below hbu3)
      refine hK _ _ (fun _ => hS_u3) ?_
      clear hK K hs1 hbu3
      try simp only [Act.put, List.setIfInBounds_toArray, List.set_cons_zero, List.set_cons_succ]
      refine wpAnyT_one (i := 7) (by kernel_rfl) rfl rfl (fun K hK => ?_)
      go_simp
      refine (joinR_any LB.out (by rw [flat1]; omega)).mono ?_
      rintro e u4 ⟨a2, c2, l2, rfl, hl2, hs2, hbu4⟩
      have hS_u4 := hS_u3.below hbu4 (by omega)
      have hz_u4 : w.heap.size + 2 ≤ u4.heap.size := by have := hbu4.size; omega
      have hR_u4 := Lib.hid ((hbu4.block (w.heap.size + 1) (by omega)).trans hR_u3.out)
      have hB_u4 := hB_u3.trans (hbu4.mono (by omega))
      have HsB := Lib.hid (hs2.anti (M' := fun k => k < w.heap.size + 2) (fun k _ hk => by omega))
      have hl2 : Hid (l2 = t.out) := by unfold Hid; rw [hl2.out, flat1]
      have HsA := Lib.hid (HsA.out.below hbu4)
      refine hK _ _ (fun _ => hS_u4) ?_
      clear hK K hs2 hbu4
      try simp only [Act.put, List.setIfInBounds_toArray, List.set_cons_zero, List.set_cons_succ]
      refine wpAnyT_take (i := 8) (v := ?v124) rfl (by kernel_rfl) (by kernel_rfl) (by kernel_rfl) (by kernel_rfl) (by kernel_rfl) (fun _ _ _ h => h) (Or.inl ⟨by rfl, ?y124⟩) (by assumption) ?r124
      case y124 => (intro w' hSw; (try dsimp only at hSw); go_simp; try with_reducible rfl)
      try simp only [Act.put, List.setIfInBounds_toArray, List.set_cons_zero, List.set_cons_succ]
      have HsAn := Lib.hid (HsA.out.st2 (n := w.heap.size) (g := w.heap.size + 1) (y0 := .slice a1 l1.length c1) (y1 := .slice a2 l2.length c2) (by omega) (by omega))
      have HsBn := Lib.hid (HsB.out.st2 (n := w.heap.size) (g := w.heap.size + 1) (y0 := .slice a1 l1.length c1) (y1 := .slice a2 l2.length c2) (by omega) (by omega))
      have HBn := Lib.hid (bel_st2 hB_u4 (g := w.heap.size + 1) (y0 := .slice a1 l1.length c1) (y1 := .slice a2 l2.length c2) (by omega))
      have HRn := Lib.hid (set2 (y0 := .slice a1 l1.length c1) (y1 := .slice a2 l2.length c2) hR_u4.out)
      obtain ⟨⟨k0, k1⟩, kf⟩ := cells2 hR_u4.out
      refine wpAnyT_late (i := 9) (by kernel_rfl) (by kernel_rfl) rfl rfl (fun K hK => ?_)
      go_simp
      refine hK _ _ ?_
      clear hK K k0 k1 kf
      refine wpAnyT_done (by kernel_rfl) ?_ _
      obtain ⟨⟨q0, q1⟩, -⟩ := cells2 HRn.out
      go_wp2
      exact bodyPost_ret (v := .agg #[.slice a1 l1.length c1, .slice a2 l2.length c2]) (by simp [results, Try.results75, go_sem, q0, q1]) rfl ⟨a1, c1, l1, a2, c2, l2, rfl, by unfold Hid; rw [hl1.out, hl2.out], HsAn.out, HsBn.out, HBn.out⟩
  · skip
    go_simp
    have hba := (Below.refl u0.heap.size u0).alloc (Nat.le_refl _) (.cells #[.slice a' t.out.length c'] 30)
    have hBa := hB_u0.alloc (by omega) (.cells #[.slice a' t.out.length c'] 30)
    have hS_u1 := hS_u0.below hba (by omega)
    have hz_u1 : w.heap.size + 2 ≤ (u0.alloc (.cells #[.slice a' t.out.length c'] 30)).heap.size := by simp; omega
    have hR_u1 := Lib.hid ((hba.block (w.heap.size + 1) (by omega)).trans hR_u0.out)
    have LB := Lib.hid (rows1 (T := 30) (HB.out.below hB_u0) rfl)
    refine hK _ _ (fun _ => hS_u1) ?_
    clear hK K
    have hB_u1 := hBa
    clear hBa hba
    generalize hgg : u0.alloc (.cells #[.slice a' t.out.length c'] 30) = u1 at *
    clear hgg
    try simp only [Act.put, List.setIfInBounds_toArray, List.set_cons_zero, List.set_cons_succ]
    refine wpAnyT_one (i := 2) (by kernel_rfl) rfl rfl (fun K hK => ?_)
    go_simp
    have hba := (Below.refl u1.heap.size u1).alloc (Nat.le_refl _) (.cells #[.slice a t.inn.length c] 30)
    have hBa := hB_u1.alloc (by omega) (.cells #[.slice a t.inn.length c] 30)
    have hS_u2 := hS_u1.below hba (by omega)
    have hz_u2 : w.heap.size + 2 ≤ (u1.alloc (.cells #[.slice a t.inn.length c] 30)).heap.size := by simp; omega
    have hR_u2 := Lib.hid ((hba.block (w.heap.size + 1) (by omega)).trans hR_u1.out)
    have LA := Lib.hid (rows1 (T := 30) (HA.out.below hB_u1) rfl)
    have LB := Lib.hid (LB.out.below hba)
    refine hK _ _ (fun _ => hS_u2) ?_
    clear hK K
    have hB_u2 := hBa
    clear hBa hba
    generalize hgg : u1.alloc (.cells #[.slice a t.inn.length c] 30) = u2 at *
    clear hgg
    try simp only [Act.put, List.setIfInBounds_toArray, List.set_cons_zero, List.set_cons_succ]
    refine wpAnyT_one (i := 3) (by kernel_rfl) rfl rfl (fun K hK => ?_)
    go_simp
    refine (joinR_any LA.out (by rw [flat1]; omega)).mono ?_
    rintro e u3 ⟨a1, c1, l1, rfl, hl1, hs1, hbu3⟩
    have hS_u3 := hS_u2.below hbu3 (by omega)
    have hz_u3 : w.heap.size + 2 ≤ u3.heap.size := by have := hbu3.size; omega
    have hR_u3 := Lib.hid ((hbu3.block (w.heap.size + 1) (by omega)).trans hR_u2.out)
    have hB_u3 := hB_u2.trans (hbu3.mono (by omega))
    have HsA := Lib.hid (hs1.anti (M' := fun k => k < w.heap.size + 2) (fun k _ hk => by omega))
    have hl1 : Hid (l1 = t.inn) := by unfold Hid; rw [hl1.out, flat1]
    have LB := Lib.hid (LB.out.below hbu3)
    refine hK _ _ (fun _ => hS_u3) ?_
    clear hK K hs1 hbu3
    try simp only [Act.put, List.setIfInBounds_toArray, List.set_cons_zero, List.set_cons_succ]
    refine wpAnyT_one (i := 7) (by kernel_rfl) rfl rfl (fun K hK => ?_)
    go_simp
    refine (joinR_any LB.out (by rw [flat1]; omega)).mono ?_
    rintro e u4 ⟨a2, c2, l2, rfl, hl2, hs2, hbu4⟩
    have hS_u4 := hS_u3.below hbu4 (by omega)
    have hz_u4 : w.heap.size + 2 ≤ u4.heap.size := by have := hbu4.size; omega
    have hR_u4 := Lib.hid ((hbu4.block (w.heap.size + 1) (by omega)).trans hR_u3.out)
    have hB_u4 := hB_u3.trans (hbu4.mono (by omega))
    have HsB := Lib.hid (hs2.anti (M' := fun k => k < w.heap.size + 2) (fun k _ hk => by omega))
    have hl2 : Hid (l2 = t.out) := by unfold Hid; rw [hl2.out, flat1]
    have HsA := Lib.hid (HsA.out.below hbu4)
    refine hK _ _ (fun _ => hS_u4) ?_
    clear hK K hs2 hbu4
    try simp only [Act.put, List.setIfInBounds_toArray, List.set_cons_zero, List.set_cons_succ]
    refine wpAnyT_take (i := 8) (v := ?v125) rfl (by kernel_rfl) (by kernel_rfl) (by kernel_rfl) (by kernel_rfl) (by kernel_rfl) (fun _ _ _ h => h) (Or.inl ⟨by rfl, ?y125⟩) (by assumption) ?r125
    case y125 => (intro w' hSw; (try dsimp only at hSw); go_simp; try with_reducible rfl)
    try simp only [Act.put, List.setIfInBounds_toArray, List.set_cons_zero, List.set_cons_succ]
    have HsAn := Lib.hid (HsA.out.st2 (n := w.heap.size) (g := w.heap.size + 1) (y0 := .slice a1 l1.length c1) (y1 := .slice a2 l2.length c2) (by omega) (by omega))
    have HsBn := Lib.hid (HsB.out.st2 (n := w.heap.size) (g := w.heap.size + 1) (y0 := .slice a1 l1.length c1) (y1 := .slice a2 l2.length c2) (by omega) (by omega))
    have HBn := Lib.hid (bel_st2 hB_u4 (g := w.heap.size + 1) (y0 := .slice a1 l1.length c1) (y1 := .slice a2 l2.length c2) (by omega))
    have HRn := Lib.hid (set2 (y0 := .slice a1 l1.length c1) (y1 := .slice a2 l2.length c2) hR_u4.out)
    obtain ⟨⟨k0, k1⟩, kf⟩ := cells2 hR_u4.out
    refine wpAnyT_late (i := 9) (by kernel_rfl) (by kernel_rfl) rfl rfl (fun K hK => ?_)
    go_simp
    refine hK _ _ ?_
    clear hK K k0 k1 kf
    refine wpAnyT_done (by kernel_rfl) ?_ _
    obtain ⟨⟨q0, q1⟩, -⟩ := cells2 HRn.out
    go_wp2
    exact bodyPost_ret (v := .agg #[.slice a1 l1.length c1, .slice a2 l2.length c2]) (by simp [results, Try.results75, go_sem, q0, q1]) rfl ⟨a1, c1, l1, a2, c2, l2, rfl, by unfold Hid; rw [hl1.out, hl2.out], HsAn.out, HsBn.out, HBn.out⟩
end
end Go.Proofs.Ytlgdijgfphedpaa
/- What the reference's add holds in memory. Condition: none. -/
namespace Go.Proofs.Ytlgdijgfphedpaa
open Go.RowKit
abbrev zeOb : Obj := .cells #[.int .i64 0, .slice none 0 0] 29
/-- Boxes of o and t, the result's cell, the observations that are built, and their traces. -/
structure AdI (w u : World) (a : Option Addr) (c : Nat) (o : Ob) (b : Option Addr) (d : Nat) (b' : Option Addr) (d' : Nat) (t : Tr) (aL : Option Addr) (cL : Nat) (L : List Tr) : Prop where
  x : O2 u w.heap.size a c o
  y : T2 u (w.heap.size + 1) b d b' d' t
  r : u.heap[w.heap.size + 2]? = some (.cells #[.int .i64 0, .slice none 0 0] 29 (0, 0))
  g : u.heap[w.heap.size + 3]? = some (.cells #[.int .i64 o.inputs, .slice aL L.length cL] 29 (0, 0))
  q : Qt (w.heap.size + 4) (w.heap.size + 4) u 61 (.slice aL L.length cL) L
  B : Below w.heap.size w u
  z : w.heap.size + 4 ≤ u.heap.size
namespace AdI
variable {w u u' : World} {a : Option Addr} {c : Nat} {o : Ob} {b : Option Addr} {d : Nat} {b' : Option Addr} {d' : Nat} {t : Tr} {aL a' : Option Addr} {cL c' : Nat} {L l' : List Tr}
theorem later (h : AdI w u a c o b d b' d' t aL cL L) (hb : Below u.heap.size u u') : AdI w u' a c o b d b' d' t aL cL L := by
  have hz := h.z
  exact ⟨h.x.below hb (by omega), h.y.below hb (by omega), (hb.block _ (by omega)).trans h.r, (hb.block _ (by omega)).trans h.g, h.q.later hb, h.B.trans (hb.mono (by omega)), by have := hb.size; omega⟩
theorem alloc (h : AdI w u a c o b d b' d' t aL cL L) (ob : Obj) : AdI w (u.alloc ob) a c o b d b' d' t aL cL L := h.later ((Below.refl _ _).alloc (Nat.le_refl _) ob)
theorem cell (h : AdI w u a c o b d b' d' t aL cL L) : u.cell? ⟨w.heap.size + 3, 1, none⟩ = some (.slice aL L.length cL) := (cells2 h.g).1.2
/-- The list has grown, and is stored. -/
theorem push (h : AdI w u a c o b d b' d' t aL cL L) (hb : Below (w.heap.size + 4) u u') (hq : Qt (w.heap.size + 4) (w.heap.size + 4) u' 61 (.slice a' l'.length c') l') :
    AdI w (u'.setCell ⟨w.heap.size + 3, 1, none⟩ (.slice a' l'.length c')) a c o b d b' d' t a' c' l' := by
  have hz := h.z
  have hs := hb.size
  have hb2 : Below (w.heap.size + 3) u (u'.setCell ⟨w.heap.size + 3, 1, none⟩ (.slice a' l'.length c')) := (hb.mono (show w.heap.size + 3 ≤ w.heap.size + 4 by omega)).setCell (p := ⟨w.heap.size + 3, 1, none⟩) (Nat.le_refl _) _
  refine ⟨h.x.below hb2 (by omega), h.y.below hb2 (by omega), (hb2.block _ (by omega)).trans h.r, ?_, hq.set (p := ⟨w.heap.size + 3, 1, none⟩) (Nat.lt_succ_self _) (Nat.le_refl _) _, h.B.trans (hb2.mono (by omega)), by have := hb2.size; omega⟩
  rw [heap_setCell_same _ _ _ _ _ _ ((hb.block _ (by omega)).trans h.g)]
  rfl
theorem new (w : World) (a c o b d b' d' t) : AdI w ((((w.alloc (obO o a c)).alloc (trO t b d b' d')).alloc zeOb).alloc (.cells #[.int .i64 o.inputs, .slice none 0 0] 29)) a c o b d b' d' t none 0 [] := by
  have k1 := o2_new (o := o) (a := a) (c := c) w
  have k2 := t2_new (t := t) (a := b) (c := d) (a' := b') (c' := d') (w.alloc (obO o a c))
  have k3 := heap_alloc_new ((w.alloc (obO o a c)).alloc (trO t b d b' d')) zeOb
  have k4 := heap_alloc_new (((w.alloc (obO o a c)).alloc (trO t b d b' d')).alloc zeOb) (.cells #[.int .i64 o.inputs, .slice none 0 0] 29)
  have e : ∀ (v : World) (ob : Obj), Below v.heap.size v (v.alloc ob) := fun v ob => (Below.refl _ _).alloc (Nat.le_refl _) ob
  have b1 := e w (obO o a c)
  have b2 := e (w.alloc (obO o a c)) (trO t b d b' d')
  have b3 := e ((w.alloc (obO o a c)).alloc (trO t b d b' d')) zeOb
  have b4 := e (((w.alloc (obO o a c)).alloc (trO t b d b' d')).alloc zeOb) (.cells #[.int .i64 o.inputs, .slice none 0 0] 29)
  refine ⟨((k1.below b2 (by simp)).below b3 (by simp; omega)).below b4 (by simp; omega), ?_, ?_, ?_, Ow.nil, b1.trans ((b2.mono (by simp)).trans ((b3.mono (by simp; omega)).trans (b4.mono (by simp; omega)))), by simp⟩
  · have := (k2.below b3 (by simp)).below b4 (by simp)
    simpa using this
  · have := (b4.block _ (by simp)).trans k3
    simpa using this
  · simpa using k4
end AdI
end Go.Proofs.Ytlgdijgfphedpaa
/- The reference's add. Condition: at most 10000 traces, fewer than 10^11 numbers in each. Printed by wip/mkadd.py. -/
namespace Go.Proofs.Ytlgdijgfphedpaa
open Go.RowKit
section
variable {M M' M'' : Nat → Prop} {w : World} {a b b' : Option Addr} {c d d' : Nat} {t : Tr} {o : Ob}
set_option maxRecDepth 100000 in
set_option maxHeartbeats 8000000 in
theorem addR_any (ho : Os M w a c o) (h1 : Sl M' w b d t.inn) (h2 : Sl M'' w b' d' t.out) (hn : o.traces.length ≤ 10000) (hlen : Hid (∀ x ∈ o.traces, x.inn.length < 100000000000 ∧ x.out.length < 100000000000)) (hy1 : t.inn.length < 100000000000) (hy2 : t.out.length < 100000000000) :
    Calls Try.prog 55 #[obV o a c, trV t b d b' d'] w fun e w' => ∃ (a' : Option Addr) (c' : Nat) (l : List Tr), e = .returned (.agg #[.int .i64 o.inputs, .slice a' l.length c']) ∧ Hid (l = o.addT t) ∧
      Sl (fun k => k < w.heap.size) w' a' c' l ∧ Below w.heap.size w w' := by
  have hll := ho.traces.le
  have hlt1 := h1.le
  have hA0 := AdI.new w a c o b d b' d' t
  have HO := Lib.hid ho
  have HS1 := Lib.hid h1
  have HS2 := Lib.hid h2
  have HA0 := Lib.hid hA0
  have hx0 := hA0.x
  have hy0 := hA0.y
  clear ho h1 h2 hA0
  go_enter Try.func55, Try.ntmps55
  go_wp2
  have hA0 := HA0.out
  clear HA0 hx0 hy0
  generalize (((w.alloc (obO o a c)).alloc (trO t b d b' d')).alloc zeOb).alloc (.cells #[.int .i64 o.inputs, .slice none 0 0] 29) = w0 at *
  go_loopw [6, 7] (fun dn i wr => ∃ (k : Nat) (qd : Bool), k ≤ o.traces.length ∧ i = .int .i64 k ∧ dn = .bool qd ∧ Hid (qd = o.inside t k) ∧ AdI w wr a c o b d b' d' t none 0 []) (fun _ i _ => o.traces.length - (intOf i).toNat)
  case atStart => exact ⟨0, _, by omega, rfl, rfl, Ob.ins_0, hA0⟩
  case round =>
    clear hA0
    obtain ⟨k, qd, hk, rfl, rfl, hQ, hA⟩ := hrel
    obtain ⟨w1, rfl⟩ : ∃ w1 : World, w1 = wr := ⟨_, rfl⟩
    have hx := hA.x
    have hy := hA.y
    have hz := hA.z
    by_cases hlt : k < o.traces.length
    · obtain ⟨b1, o1, a1, c1, a2, c2, x, rfl, hc1, hc2, hX, hs1, hs2⟩ := (HO.out.below hA.B).traces.at_tr hlt
      have hQ2 : Hid ((qd || hasP x.inn t.inn) = o.inside t (k + 1)) := by unfold Hid; rw [o.inside_succ hX.out, hQ.out]
      have hb1 := lt_of_cell hc1
      have hbd := (Below.refl w1.heap.size w1).drew
      have hSS := And.intro (hx.below hbd (by omega)) (And.intro ((hbd.cell (p := ⟨b1, o1 + k * 2, none⟩) hb1).trans hc1) (hy.below hbd (by omega)))
      have hAd := hA.later hbd
      have hbl : b1 < w1.drew.heap.size := hb1
      have HC := Lib.hid (haspR_is hs1.drew (HS1.out.below (hA.B.drew)) rfl)
      clear hQ hs1 hs2 hbd hb1
      go_wp2
      refine wp_region_L (fun w' => O2 w' w.heap.size (some ⟨b1, o1, none⟩) c o ∧ w'.cell? ⟨b1, o1 + k * 2, none⟩ = some (.slice a1 x.inn.length c1) ∧ T2 w' (w.heap.size + 1) b d b' d' t) [0, 1, 2, 3, 4, 5, 6, 7, 8, 9, 11, 12] (by kernel_rfl) ?_
      clear hA hx hy hc1 hc2 hz
      generalize w1.drew = w2 at *
      rcases qd with _ | _
      · skip
        refine wpAnyL_take (i := 0) (v := ?v1) rfl (by kernel_rfl) (by kernel_rfl) (by kernel_rfl) (by kernel_rfl) (fun _ _ _ h => h) (Or.inl ⟨by rfl, ?y1⟩) (by assumption) ?r1
        case y1 => (intro w' hSw; (try dsimp only at hSw); go_simp; try with_reducible rfl)
        try simp only [Act.put, List.setIfInBounds_toArray, List.set_cons_zero, List.set_cons_succ]
        refine wpAnyL_take (i := 1) (v := ?v2) rfl (by kernel_rfl) (by kernel_rfl) (by kernel_rfl) (by kernel_rfl) (fun _ _ _ h => h) (Or.inl ⟨by rfl, ?y2⟩) (by assumption) ?r2
        case y2 => (intro w' hSw; (try dsimp only at hSw); go_simp; try with_reducible rfl)
        try simp only [Act.put, List.setIfInBounds_toArray, List.set_cons_zero, List.set_cons_succ]
        refine wpAnyL_take (i := 2) (v := ?v3) rfl (by kernel_rfl) (by kernel_rfl) (by kernel_rfl) (by kernel_rfl) (fun _ _ _ h => h) (Or.inl ⟨by rfl, ?y3⟩) (by assumption) ?r3
        case y3 => (intro w' hSw; (try dsimp only at hSw); go_simp; try with_reducible rfl)
        try simp only [Act.put, List.setIfInBounds_toArray, List.set_cons_zero, List.set_cons_succ]
        refine wpAnyL_take (i := 3) (v := ?v4) rfl (by kernel_rfl) (by kernel_rfl) (by kernel_rfl) (by kernel_rfl) (fun _ _ _ h => h) (Or.inl ⟨by rfl, ?y4⟩) (by assumption) ?r4
        case y4 => (intro w' hSw; (try dsimp only at hSw); go_simp; try with_reducible rfl)
        try simp only [Act.put, List.setIfInBounds_toArray, List.set_cons_zero, List.set_cons_succ]
        refine wpAnyL_take (i := 4) (v := ?v5) rfl (by kernel_rfl) (by kernel_rfl) (by kernel_rfl) (by kernel_rfl) (fun _ _ _ h => h) (Or.inl ⟨by rfl, ?y5⟩) (by assumption) ?r5
        case y5 => (intro w' hSw; (try dsimp only at hSw); go_simp; try with_reducible rfl)
        try simp only [Act.put, List.setIfInBounds_toArray, List.set_cons_zero, List.set_cons_succ]
        refine wpAnyL_take (i := 5) (v := ?v6) rfl (by kernel_rfl) (by kernel_rfl) (by kernel_rfl) (by kernel_rfl) (fun _ _ _ h => h) (Or.inl ⟨by rfl, ?y6⟩) (by assumption) ?r6
        case y6 => (intro w' hSw; (try dsimp only at hSw); go_simp; try with_reducible rfl)
        try simp only [Act.put, List.setIfInBounds_toArray, List.set_cons_zero, List.set_cons_succ]
        refine wpAnyL_take (i := 6) (v := ?v7) rfl (by kernel_rfl) (by kernel_rfl) (by kernel_rfl) (by kernel_rfl) (fun _ _ _ h => h) (Or.inl ⟨by rfl, ?y7⟩) (by assumption) ?r7
        case y7 => (intro w' hSw; (try dsimp only at hSw); go_simp; try with_reducible rfl)
        try simp only [Act.put, List.setIfInBounds_toArray, List.set_cons_zero, List.set_cons_succ]
        refine wpAnyL_take (i := 7) (v := ?v8) rfl (by kernel_rfl) (by kernel_rfl) (by kernel_rfl) (by kernel_rfl) (fun _ _ _ h => h) (Or.inl ⟨by rfl, ?y8⟩) (by assumption) ?r8
        case y8 => (intro w' hSw; (try dsimp only at hSw); go_simp; try with_reducible rfl)
        try simp only [Act.put, List.setIfInBounds_toArray, List.set_cons_zero, List.set_cons_succ]
        refine wpAnyL_take (i := 8) (v := ?v9) rfl (by kernel_rfl) (by kernel_rfl) (by kernel_rfl) (by kernel_rfl) (fun _ _ _ h => h) (Or.inl ⟨by rfl, ?y9⟩) (by assumption) ?r9
        case y9 => (intro w' hSw; (try dsimp only at hSw); go_simp; try with_reducible rfl)
        try simp only [Act.put, List.setIfInBounds_toArray, List.set_cons_zero, List.set_cons_succ]
        refine wpAnyL_take (i := 9) (v := ?v10) rfl (by kernel_rfl) (by kernel_rfl) (by kernel_rfl) (by kernel_rfl) (fun _ _ _ h => h) (Or.inl ⟨by rfl, ?y10⟩) (by assumption) ?r10
        case y10 => (intro w' hSw; (try dsimp only at hSw); go_simp; try with_reducible rfl)
        try simp only [Act.put, List.setIfInBounds_toArray, List.set_cons_zero, List.set_cons_succ]
        refine wpAnyL_one (i := 10) (by kernel_rfl) rfl rfl (fun K hK => ?_)
        go_simp
        refine (HC.out).mono ?_
        rintro e w3 ⟨rfl, hb3⟩
        have hA3 := hAd.later hb3
        have hz := hAd.z
        have hS3 := And.intro (hSS.1.below hb3 (by omega)) (And.intro ((hb3.cell (p := ⟨b1, o1 + k * 2, none⟩) hbl).trans hSS.2.1) (hSS.2.2.below hb3 (by omega)))
        refine hK _ _ (fun _ => hS3) ?_
        clear hK K
        refine wpAnyL_take (i := 11) (v := ?v11) rfl (by kernel_rfl) (by kernel_rfl) (by kernel_rfl) (by kernel_rfl) (fun _ _ _ h => h) (Or.inl ⟨by rfl, ?y11⟩) (by assumption) ?r11
        case y11 => (intro w' hSw; (try dsimp only at hSw); go_simp; try with_reducible rfl)
        try simp only [Act.put, List.setIfInBounds_toArray, List.set_cons_zero, List.set_cons_succ]
        refine wpAnyL_take (i := 12) (v := ?v12) rfl (by kernel_rfl) (by kernel_rfl) (by kernel_rfl) (by kernel_rfl) (fun _ _ _ h => h) (Or.inl ⟨by rfl, ?y12⟩) (by assumption) ?r12
        case y12 => (intro w' hSw; (try dsimp only at hSw); go_simp; try with_reducible rfl)
        try simp only [Act.put, List.setIfInBounds_toArray, List.set_cons_zero, List.set_cons_succ]
        refine wpAnyL_done (by kernel_rfl) ?_ _
        have hQ3 : Hid (hasP x.inn t.inn = o.inside t (k + 1)) := hQ2
        go_wp2
        go_roundw
        case rel => exact ⟨k + 1, _, by omega, by go_num, rfl, hQ3, hA3⟩
        case measure => simp [intOf]; omega
      · skip
        refine wpAnyL_take (i := 0) (v := ?v13) rfl (by kernel_rfl) (by kernel_rfl) (by kernel_rfl) (by kernel_rfl) (fun _ _ _ h => h) (Or.inl ⟨by rfl, ?y13⟩) (by assumption) ?r13
        case y13 => (intro w' hSw; (try dsimp only at hSw); go_simp; try with_reducible rfl)
        try simp only [Act.put, List.setIfInBounds_toArray, List.set_cons_zero, List.set_cons_succ]
        refine wpAnyL_take (i := 1) (v := ?v14) rfl (by kernel_rfl) (by kernel_rfl) (by kernel_rfl) (by kernel_rfl) (fun _ _ _ h => h) (Or.inl ⟨by rfl, ?y14⟩) (by assumption) ?r14
        case y14 => (intro w' hSw; (try dsimp only at hSw); go_simp; try with_reducible rfl)
        try simp only [Act.put, List.setIfInBounds_toArray, List.set_cons_zero, List.set_cons_succ]
        refine wpAnyL_take (i := 2) (v := undef) rfl (by kernel_rfl) (by kernel_rfl) (by kernel_rfl) (by kernel_rfl) (fun _ _ _ h => h) (Or.inr ⟨by rfl, rfl⟩) (by assumption) ?_
        try simp only [Act.put, List.setIfInBounds_toArray, List.set_cons_zero, List.set_cons_succ]
        refine wpAnyL_take (i := 3) (v := undef) rfl (by kernel_rfl) (by kernel_rfl) (by kernel_rfl) (by kernel_rfl) (fun _ _ _ h => h) (Or.inr ⟨by rfl, rfl⟩) (by assumption) ?_
        try simp only [Act.put, List.setIfInBounds_toArray, List.set_cons_zero, List.set_cons_succ]
        refine wpAnyL_take (i := 4) (v := undef) rfl (by kernel_rfl) (by kernel_rfl) (by kernel_rfl) (by kernel_rfl) (fun _ _ _ h => h) (Or.inr ⟨by rfl, rfl⟩) (by assumption) ?_
        try simp only [Act.put, List.setIfInBounds_toArray, List.set_cons_zero, List.set_cons_succ]
        refine wpAnyL_take (i := 5) (v := undef) rfl (by kernel_rfl) (by kernel_rfl) (by kernel_rfl) (by kernel_rfl) (fun _ _ _ h => h) (Or.inr ⟨by rfl, rfl⟩) (by assumption) ?_
        try simp only [Act.put, List.setIfInBounds_toArray, List.set_cons_zero, List.set_cons_succ]
        refine wpAnyL_take (i := 6) (v := undef) rfl (by kernel_rfl) (by kernel_rfl) (by kernel_rfl) (by kernel_rfl) (fun _ _ _ h => h) (Or.inr ⟨by rfl, rfl⟩) (by assumption) ?_
        try simp only [Act.put, List.setIfInBounds_toArray, List.set_cons_zero, List.set_cons_succ]
        refine wpAnyL_take (i := 7) (v := undef) rfl (by kernel_rfl) (by kernel_rfl) (by kernel_rfl) (by kernel_rfl) (fun _ _ _ h => h) (Or.inr ⟨by rfl, rfl⟩) (by assumption) ?_
        try simp only [Act.put, List.setIfInBounds_toArray, List.set_cons_zero, List.set_cons_succ]
        refine wpAnyL_skip (i := 8) (by kernel_rfl) rfl rfl (by assumption) ?_
        try simp only [Act.put, List.setIfInBounds_toArray, List.set_cons_zero, List.set_cons_succ]
        refine wpAnyL_skip (i := 9) (by kernel_rfl) rfl rfl (by assumption) ?_
        try simp only [Act.put, List.setIfInBounds_toArray, List.set_cons_zero, List.set_cons_succ]
        refine wpAnyL_skip (i := 10) (by kernel_rfl) rfl rfl (by assumption) ?_
        try simp only [Act.put, List.setIfInBounds_toArray, List.set_cons_zero, List.set_cons_succ]
        refine wpAnyL_take (i := 11) (v := ?v15) rfl (by kernel_rfl) (by kernel_rfl) (by kernel_rfl) (by kernel_rfl) (fun _ _ _ h => h) (Or.inl ⟨by rfl, ?y15⟩) (by assumption) ?r15
        case y15 => (intro w' hSw; (try dsimp only at hSw); go_simp; try with_reducible rfl)
        try simp only [Act.put, List.setIfInBounds_toArray, List.set_cons_zero, List.set_cons_succ]
        refine wpAnyL_take (i := 12) (v := ?v16) rfl (by kernel_rfl) (by kernel_rfl) (by kernel_rfl) (by kernel_rfl) (fun _ _ _ h => h) (Or.inl ⟨by rfl, ?y16⟩) (by assumption) ?r16
        case y16 => (intro w' hSw; (try dsimp only at hSw); go_simp; try with_reducible rfl)
        try simp only [Act.put, List.setIfInBounds_toArray, List.set_cons_zero, List.set_cons_succ]
        refine wpAnyL_done (by kernel_rfl) ?_ _
        have hQ3 : Hid (true = o.inside t (k + 1)) := by unfold Hid; rw [← hQ2.out, Bool.true_or]
        go_wp2
        go_roundw
        case rel => exact ⟨k + 1, _, by omega, by go_num, rfl, hQ3, hAd⟩
        case measure => simp [intOf]; omega
    · have HE : Hid (qd = o.inside t o.traces.length) := by unfold Hid; rw [hQ.out, show k = o.traces.length by omega]
      clear hQ
      go_wp2
      go_loopw [6, 8] (fun dn i wr => ∃ (k : Nat) (qe : Bool) (aL : Option Addr) (cL : Nat) (lL : List Tr), k ≤ o.traces.length ∧ i = .int .i64 k ∧ dn = .bool qe ∧ Hid ((lL, qe) = addF t (o.traces.take k) qd) ∧ AdI w wr a c o b d b' d' t aL cL lL) (fun _ i _ => o.traces.length - (intOf i).toNat)
      case atStart => exact ⟨0, qd, none, 0, [], by omega, rfl, rfl, by unfold Hid addF; simp, hA⟩
      case round =>
        clear hA hx hy hz hlt hk
        obtain ⟨k, qe, aL, cL, lL, hk, rfl, rfl, hF, hA⟩ := hrel
        obtain ⟨w1, rfl⟩ : ∃ w1 : World, w1 = wr := ⟨_, rfl⟩
        have hx := hA.x
        have hz := hA.z
        have hLl : lL.length ≤ 2 * k := by
          have h := addF_len t qd (o.traces.take k)
          rw [← hF.out, List.length_take] at h
          have : min k o.traces.length = k := by omega
          rw [this] at h
          exact h
        by_cases hlt : k < o.traces.length
        · obtain ⟨b1, o1, a1, c1, a2, c2, x, rfl, hc1, hc2, hX, hs1, hs2⟩ := HO.out.traces.at_tr hlt
          have hF2 : Hid (addF t (o.traces.take (k + 1)) qd = addR t x (lL, qe)) := by unfold Hid; rw [addF_succ hX.out, hF.out]
          have hxl := Lib.hid (hlen.out x (List.mem_of_getElem? hX.out))
          have hd1 := (hA.B.cell (p := ⟨b1, o1 + k * 2, none⟩) (lt_of_cell hc1)).trans hc1
          have hd2 := (hA.B.cell (p := ⟨b1, o1 + k * 2 + 1, none⟩) (lt_of_cell hc2)).trans hc2
          have HXS := Lib.hid (And.intro hs1 hs2)
          have HTS := Lib.hid (And.intro HS1.out HS2.out)
          have hno0 := Lib.hid (fun i hi => (Nat.ne_of_lt (hA.q.lt i hi).2 : i ≠ w1.heap.size))
          have hba := (Below.refl w1.heap.size w1).alloc (Nat.le_refl _) (trO x a1 c1 a2 c2)
          have HX0 := Lib.hid (heap_alloc_new w1 (trO x a1 c1 a2 c2))
          have hA0 := hA.later hba
          have hsu0 : w1.heap.size < (w1.alloc (trO x a1 c1 a2 c2)).heap.size := by simp
          have hsb0 : w.heap.size + 4 ≤ w1.heap.size := hz
          have hyz := hA0.y
          clear hc1 hc2 hs1 hs2 hba hX
          have hyy := hA.y
          clear hA
          rcases qe with _ | _
          · have HC := Lib.hid (cmpR_any ((HTS.out.1.below hA0.B).anti (M' := fun _ => False) fun _ _ h => h.elim) ((HXS.out.1.below hA0.B).anti (M' := fun _ => False) fun _ _ h => h.elim))
            go_wp2_with fail
            generalize hgg : w1.alloc (trO x a1 c1 a2 c2) = w2 at *
            clear hgg hx hd1 hd2 hyy hyz hz
            generalize w1.heap.size = sb at *
            have hA := hA0
            have HX := HX0
            have hsu := hsu0
            have hno := hno0
            have hsb := hsb0
            clear hA0 HX0 hsu0 hno0 hsb0
            refine (HC.out).mono ?_
            rintro e w3 ⟨rfl, hD⟩
            have hb3 := blw hD w2.heap.size
            have hA := hA.later hb3
            have HX := Lib.hid ((hb3.block sb hsu).trans HX.out)
            have hsu : sb < w3.heap.size := Nat.lt_of_lt_of_le hsu hb3.size
            have hyy := hA.y
            obtain ⟨hx1, hx2⟩ := cells2 HX.out
            clear hx2
            clear HC hD hb3
            by_cases hcm : cmpW t.inn x.inn < 0
            · have hcb : decide (cmpW t.inn x.inn < 0) = true := by simp [hcm]
              have hS0 := Lib.hid (show addS t x (lL, false) = (lL ++ [t], true) by unfold addS; rw [if_pos ⟨rfl, hcm⟩])
              clear hcm
              go_wp2
              clear hyy hx1
              refine wp_region_T (fun w' => T2 w' (w.heap.size + 1) b d b' d' t ∧ w'.cell? ⟨w.heap.size + 3, 1, none⟩ = some (.slice aL lL.length cL)) [0, 1, 2, 6] (by kernel_rfl) ?_
              have hb0 := (Below.refl w3.heap.size w3).drew
              have hA0 := hA.later hb0
              have HX0 := Lib.hid ((hb0.block sb hsu).trans HX.out)
              have hsu0 : sb < w3.drew.heap.size := hsu
              have hSS := And.intro (hA0.y) hA0.cell
              clear hA hb0 HX hsu
              generalize w3.drew = p1 at *
              refine wpAnyT_take (i := 0) (v := ?v126) rfl (by kernel_rfl) (by kernel_rfl) (by kernel_rfl) (by kernel_rfl) (by kernel_rfl) (fun _ _ _ h => h) (Or.inl ⟨by rfl, ?y126⟩) (by assumption) ?r126
              case y126 => (intro w' hSw; (try dsimp only at hSw); go_simp; try with_reducible rfl)
              try simp only [Act.put, List.setIfInBounds_toArray, List.set_cons_zero, List.set_cons_succ]
              refine wpAnyT_take (i := 1) (v := ?v127) rfl (by kernel_rfl) (by kernel_rfl) (by kernel_rfl) (by kernel_rfl) (by kernel_rfl) (fun _ _ _ h => h) (Or.inl ⟨by rfl, ?y127⟩) (by assumption) ?r127
              case y127 => (intro w' hSw; (try dsimp only at hSw); go_simp; try with_reducible rfl)
              try simp only [Act.put, List.setIfInBounds_toArray, List.set_cons_zero, List.set_cons_succ]
              refine wpAnyT_take (i := 2) (v := ?v128) rfl (by kernel_rfl) (by kernel_rfl) (by kernel_rfl) (by kernel_rfl) (by kernel_rfl) (fun _ _ _ h => h) (Or.inl ⟨by rfl, ?y128⟩) (by assumption) ?r128
              case y128 => (intro w' hSw; (try dsimp only at hSw); go_simp; try with_reducible rfl)
              try simp only [Act.put, List.setIfInBounds_toArray, List.set_cons_zero, List.set_cons_succ]
              refine wpAnyT_one (i := 3) (by kernel_rfl) rfl rfl (fun K hK => ?_)
              go_simp
              refine (copied_any (HTS.out.1.below hA0.B) (HTS.out.2.below hA0.B) hy1 hy2).mono ?_
              rintro e q1 ⟨a5, c5, l5, a6, c6, l6, rfl, hl5, hs5, hs6, hb⟩
              have hA1 := hA0.later hb
              have hz0 := hA0.z
              have hz1 := hA1.z
              have HX1 := Lib.hid ((hb.block sb hsu0).trans HX0.out)
              have hsu1 : sb < q1.heap.size := Nat.lt_of_lt_of_le hsu0 hb.size
              have hSS1 := And.intro (hA1.y) hA1.cell
              refine hK _ _ (fun _ => hSS1) ?_
              clear hK K hSS HX0 hsu0
              try simp only [Act.put, List.setIfInBounds_toArray, List.set_cons_zero, List.set_cons_succ]
              refine wpAnyT_one (i := 4) (by kernel_rfl) rfl rfl (fun K hK => ?_)
              go_simp
              have hba := (Below.refl q1.heap.size q1).alloc (Nat.le_refl _) (.cells #[.slice a5 l5.length c5, .slice a6 l6.length c6] 61)
              have hA2 := hA1.later hba
              have HX2 := Lib.hid ((hba.block sb hsu1).trans HX1.out)
              have hsu2 := Nat.lt_of_lt_of_le hsu1 hba.size
              have hSS2 := And.intro (hA2.y) hA2.cell
              refine hK _ _ (fun _ => hSS2) ?_
              clear hK K hSS1
              try simp only [Act.put, List.setIfInBounds_toArray, List.set_cons_zero, List.set_cons_succ]
              refine wpAnyT_one (i := 5) (by kernel_rfl) rfl rfl (fun K hK => ?_)
              have hkq : ∀ i, mayT (w.heap.size + 4) (.slice aL lL.length cL) i → i < p1.heap.size := fun i hi => by
                rcases hi with hi | hi
                · exact (hA0.q.lt i hi).2
                · omega
              refine wp_push_tr (N := w.heap.size + 4) (B := w.heap.size + 4) (v := .slice aL lL.length cL) (l := lL) (q := ⟨l5, l6⟩) (g := q1.heap.size) (c := 1) rfl Try.underlying27 info_trace rfl rfl (by simp [go_sem]) hA2.q (by simp) (by simp) ((hs5.below hba).anti fun i _ hi => hkq i hi) ((hs6.below hba).anti fun i _ hi => hkq i hi) (by omega) (by simp; omega) ?_
              intro aP cP lP r1 hl7 hq7 hk7 hg7
              have hb7 := (Below.refl (w.heap.size + 4) (q1.alloc (.cells #[.slice a5 l5.length c5, .slice a6 l6.length c6] 61))).grown hg7 hA2.z (fun k hk => (hA2.q.lt k hk).1)
              have hA3 := hA2.push hb7 hq7
              have hlP : Hid (lP = lL ++ [t]) := by unfold Hid; rw [hl7.out, hl5.out]
              obtain ⟨⟨k0, k1⟩, kf⟩ := cells2 ((hb7.block (w.heap.size + 3) (by omega)).trans hA2.g)
              have kf1 := kf 1
              have HX3 := Lib.hid ((hg7.block sb hsu2 (fun e => hno.out sb e.symm rfl)).trans HX2.out)
              have HX4 := Lib.hid ((Below.heap_setCell r1 ⟨w.heap.size + 3, 1, none⟩ (.slice aP lP.length cP) sb (by show sb ≠ w.heap.size + 3; omega)).trans HX3.out)
              have hno2 : Hid (∀ i, (Value.slice aP lP.length cP).ownBlock = some i → i ≠ sb) := fun i hi => by
                rcases (hk7.out i hi).1 with h | h
                · exact hno.out i h
                · have : sb < i := by rw [h]; simpa using hsu2
                  omega
              have hsu4 : sb < (r1.setCell ⟨w.heap.size + 3, 1, none⟩ (.slice aP lP.length cP)).heap.size := by
                have h := hg7.size
                have : (r1.setCell ⟨w.heap.size + 3, 1, none⟩ (.slice aP lP.length cP)).heap.size = r1.heap.size := by simp [World.setCell]
                omega
              have hS7 := And.intro (hA2.y.below hb7 (by omega)) k1
              refine hK _ _ (fun _ => hS7) ?_
              clear hK K hSS2 hA0 hA1 hA2 hb hba hs5 hs6 hkq hb7 hq7 hk7 hg7 hl5 hl7 hz0 hz1 HX1 HX2 HX3 hsu1 hsu2 hno
              try simp only [Act.put, List.setIfInBounds_toArray, List.set_cons_zero, List.set_cons_succ]
              refine wpAnyT_take (i := 6) (v := ?v129) rfl (by kernel_rfl) (by kernel_rfl) (by kernel_rfl) (by kernel_rfl) (by kernel_rfl) (fun _ _ _ h => h) (Or.inl ⟨by rfl, ?y129⟩) (by assumption) ?r129
              case y129 => (intro w' hSw; (try dsimp only at hSw); go_simp; try with_reducible rfl)
              try simp only [Act.put, List.setIfInBounds_toArray, List.set_cons_zero, List.set_cons_succ]
              refine wpAnyT_late (i := 7) (by kernel_rfl) (by kernel_rfl) rfl rfl (fun K hK => ?_)
              go_simp
              refine hK _ _ ?_
              clear hK K k0 k1 kf kf1 hS7
              refine wpAnyT_done (by kernel_rfl) ?_ _
              have hA := hA3
              clear hA3
              have HX := HX4
              have hno := hno2
              have hsu := hsu4
              clear HX4 hno2 hsu4
              generalize hgg : r1.setCell ⟨w.heap.size + 3, 1, none⟩ (.slice aP lP.length cP) = w5 at *
              clear hgg
              have hS : Hid (addS t x (lL, false) = (lP, true)) := by unfold Hid; rw [hS0.out, hlP.out]
              have hlPl : lP.length ≤ 2 * k + 1 := by rw [hlP.out]; simp; omega
              clear hS0 hlP hLl
              by_cases hp : hasP t.inn x.inn = true
              · by_cases hle : t.inn.length = x.inn.length
                · have hlb : (((t.inn.length : Nat) : Int) == ((x.inn.length : Nat) : Int)) = true := by simp [hle]
                  have HP : Hid (hasP t.inn x.inn = false ∨ t.inn.length = x.inn.length) := .inr hle
                  clear hle
                  have HC := Lib.hid (haspR_is (HTS.out.1.below hA.B) (HXS.out.1.below hA.B) (v := true) hp)
                  have hyy := hA.y
                  obtain ⟨hx1, hx2⟩ := cells2 HX.out
                  clear hx2
                  go_wp2_with fail
                  refine (HC.out).mono ?_
                  rintro e v2 ⟨rfl, hb⟩
                  have hA := hA.later hb
                  have HX := Lib.hid ((hb.block sb hsu).trans HX.out)
                  have hsu : sb < v2.heap.size := Nat.lt_of_lt_of_le hsu hb.size
                  have hyy := hA.y
                  obtain ⟨hx1, hx2⟩ := cells2 HX.out
                  clear hx2 hb HC
                  clear hp
                  go_wp2
                  refine wp_region_T (fun w' => T2 w' (sb) a1 c1 a2 c2 x ∧ w'.cell? ⟨w.heap.size + 3, 1, none⟩ = some (.slice aP lP.length cP)) [0, 1, 2, 6] (by kernel_rfl) ?_
                  have hb0 := (Below.refl v2.heap.size v2).drew
                  have hA0 := hA.later hb0
                  have HX0 := Lib.hid ((hb0.block sb hsu).trans HX.out)
                  have hsu0 : sb < v2.drew.heap.size := hsu
                  have hSS := And.intro ((cells2 HX0.out).1) hA0.cell
                  clear hA hb0 HX hsu
                  generalize v2.drew = p3 at *
                  refine wpAnyT_take (i := 0) (v := ?v130) rfl (by kernel_rfl) (by kernel_rfl) (by kernel_rfl) (by kernel_rfl) (by kernel_rfl) (fun _ _ _ h => h) (Or.inl ⟨by rfl, ?y130⟩) (by assumption) ?r130
                  case y130 => (intro w' hSw; (try dsimp only at hSw); go_simp; try with_reducible rfl)
                  try simp only [Act.put, List.setIfInBounds_toArray, List.set_cons_zero, List.set_cons_succ]
                  refine wpAnyT_take (i := 1) (v := ?v131) rfl (by kernel_rfl) (by kernel_rfl) (by kernel_rfl) (by kernel_rfl) (by kernel_rfl) (fun _ _ _ h => h) (Or.inl ⟨by rfl, ?y131⟩) (by assumption) ?r131
                  case y131 => (intro w' hSw; (try dsimp only at hSw); go_simp; try with_reducible rfl)
                  try simp only [Act.put, List.setIfInBounds_toArray, List.set_cons_zero, List.set_cons_succ]
                  refine wpAnyT_take (i := 2) (v := ?v132) rfl (by kernel_rfl) (by kernel_rfl) (by kernel_rfl) (by kernel_rfl) (by kernel_rfl) (fun _ _ _ h => h) (Or.inl ⟨by rfl, ?y132⟩) (by assumption) ?r132
                  case y132 => (intro w' hSw; (try dsimp only at hSw); go_simp; try with_reducible rfl)
                  try simp only [Act.put, List.setIfInBounds_toArray, List.set_cons_zero, List.set_cons_succ]
                  refine wpAnyT_one (i := 3) (by kernel_rfl) rfl rfl (fun K hK => ?_)
                  go_simp
                  refine (copied_any (HXS.out.1.below hA0.B) (HXS.out.2.below hA0.B) hxl.out.1 hxl.out.2).mono ?_
                  rintro e q3 ⟨a5, c5, l5, a6, c6, l6, rfl, hl5, hs5, hs6, hb⟩
                  have hA1 := hA0.later hb
                  have hz0 := hA0.z
                  have hz1 := hA1.z
                  have HX1 := Lib.hid ((hb.block sb hsu0).trans HX0.out)
                  have hsu1 : sb < q3.heap.size := Nat.lt_of_lt_of_le hsu0 hb.size
                  have hSS1 := And.intro ((cells2 HX1.out).1) hA1.cell
                  refine hK _ _ (fun _ => hSS1) ?_
                  clear hK K hSS HX0 hsu0
                  try simp only [Act.put, List.setIfInBounds_toArray, List.set_cons_zero, List.set_cons_succ]
                  refine wpAnyT_one (i := 4) (by kernel_rfl) rfl rfl (fun K hK => ?_)
                  go_simp
                  have hba := (Below.refl q3.heap.size q3).alloc (Nat.le_refl _) (.cells #[.slice a5 l5.length c5, .slice a6 l6.length c6] 61)
                  have hA2 := hA1.later hba
                  have HX2 := Lib.hid ((hba.block sb hsu1).trans HX1.out)
                  have hsu2 := Nat.lt_of_lt_of_le hsu1 hba.size
                  have hSS2 := And.intro ((cells2 HX2.out).1) hA2.cell
                  refine hK _ _ (fun _ => hSS2) ?_
                  clear hK K hSS1
                  try simp only [Act.put, List.setIfInBounds_toArray, List.set_cons_zero, List.set_cons_succ]
                  refine wpAnyT_one (i := 5) (by kernel_rfl) rfl rfl (fun K hK => ?_)
                  have hkq : ∀ i, mayT (w.heap.size + 4) (.slice aP lP.length cP) i → i < p3.heap.size := fun i hi => by
                    rcases hi with hi | hi
                    · exact (hA0.q.lt i hi).2
                    · omega
                  refine wp_push_tr (N := w.heap.size + 4) (B := w.heap.size + 4) (v := .slice aP lP.length cP) (l := lP) (q := ⟨l5, l6⟩) (g := q3.heap.size) (c := 1) rfl Try.underlying27 info_trace rfl rfl (by simp [go_sem]) hA2.q (by simp) (by simp) ((hs5.below hba).anti fun i _ hi => hkq i hi) ((hs6.below hba).anti fun i _ hi => hkq i hi) (by omega) (by simp; omega) ?_
                  intro aM cM lM r3 hl7 hq7 hk7 hg7
                  have hb7 := (Below.refl (w.heap.size + 4) (q3.alloc (.cells #[.slice a5 l5.length c5, .slice a6 l6.length c6] 61))).grown hg7 hA2.z (fun k hk => (hA2.q.lt k hk).1)
                  have hA3 := hA2.push hb7 hq7
                  have hlM : Hid (lM = lP ++ [x]) := by unfold Hid; rw [hl7.out, hl5.out]
                  obtain ⟨⟨k0, k1⟩, kf⟩ := cells2 ((hb7.block (w.heap.size + 3) (by omega)).trans hA2.g)
                  have kf1 := kf 1
                  have HX3 := Lib.hid ((hg7.block sb hsu2 (fun e => hno.out sb e.symm rfl)).trans HX2.out)
                  have HX4 := Lib.hid ((Below.heap_setCell r3 ⟨w.heap.size + 3, 1, none⟩ (.slice aM lM.length cM) sb (by show sb ≠ w.heap.size + 3; omega)).trans HX3.out)
                  have hno2 : Hid (∀ i, (Value.slice aM lM.length cM).ownBlock = some i → i ≠ sb) := fun i hi => by
                    rcases (hk7.out i hi).1 with h | h
                    · exact hno.out i h
                    · have : sb < i := by rw [h]; simpa using hsu2
                      omega
                  have hsu4 : sb < (r3.setCell ⟨w.heap.size + 3, 1, none⟩ (.slice aM lM.length cM)).heap.size := by
                    have h := hg7.size
                    have : (r3.setCell ⟨w.heap.size + 3, 1, none⟩ (.slice aM lM.length cM)).heap.size = r3.heap.size := by simp [World.setCell]
                    omega
                  have hS7 := And.intro ((cells2 HX3.out).1) k1
                  refine hK _ _ (fun _ => hS7) ?_
                  clear hK K hSS2 hA0 hA1 hA2 hb hba hs5 hs6 hkq hb7 hq7 hk7 hg7 hl5 hl7 hz0 hz1 HX1 HX2 HX3 hsu1 hsu2 hno
                  try simp only [Act.put, List.setIfInBounds_toArray, List.set_cons_zero, List.set_cons_succ]
                  refine wpAnyT_take (i := 6) (v := ?v133) rfl (by kernel_rfl) (by kernel_rfl) (by kernel_rfl) (by kernel_rfl) (by kernel_rfl) (fun _ _ _ h => h) (Or.inl ⟨by rfl, ?y133⟩) (by assumption) ?r133
                  case y133 => (intro w' hSw; (try dsimp only at hSw); go_simp; try with_reducible rfl)
                  try simp only [Act.put, List.setIfInBounds_toArray, List.set_cons_zero, List.set_cons_succ]
                  refine wpAnyT_late (i := 7) (by kernel_rfl) (by kernel_rfl) rfl rfl (fun K hK => ?_)
                  go_simp
                  refine hK _ _ ?_
                  clear hK K k0 k1 kf kf1 hS7
                  refine wpAnyT_done (by kernel_rfl) ?_ _
                  have hA := hA3
                  clear hA3
                  have HX := HX4
                  have hno := hno2
                  have hsu := hsu4
                  clear HX4 hno2 hsu4
                  generalize hgg : r3.setCell ⟨w.heap.size + 3, 1, none⟩ (.slice aM lM.length cM) = z2 at *
                  clear hgg
                  have hFin : Hid ((lM, true) = addF t (o.traces.take (k + 1)) qd) := by unfold Hid; rw [hF2.out]; unfold addR; rw [hS.out]; rw [if_pos HP.out, hlM.out]
                  clear hF hF2 hS
                  go_wp2
                  go_roundw
                  case rel => exact ⟨k + 1, true, aM, cM, lM, by omega, by go_num, rfl, hFin, hA⟩
                  case measure => simp [intOf]; omega
                · have hlb : (((t.inn.length : Nat) : Int) == ((x.inn.length : Nat) : Int)) = false := by simp; omega
                  have HP : Hid (¬ (hasP t.inn x.inn = false ∨ t.inn.length = x.inn.length)) := by unfold Hid; simp [hp, hle]
                  clear hle
                  have HC := Lib.hid (haspR_is (HTS.out.1.below hA.B) (HXS.out.1.below hA.B) (v := true) hp)
                  have hyy := hA.y
                  obtain ⟨hx1, hx2⟩ := cells2 HX.out
                  clear hx2
                  go_wp2_with fail
                  refine (HC.out).mono ?_
                  rintro e v2 ⟨rfl, hb⟩
                  have hA := hA.later hb
                  have HX := Lib.hid ((hb.block sb hsu).trans HX.out)
                  have hsu : sb < v2.heap.size := Nat.lt_of_lt_of_le hsu hb.size
                  have hyy := hA.y
                  obtain ⟨hx1, hx2⟩ := cells2 HX.out
                  clear hx2 hb HC
                  clear hp
                  have hFin : Hid ((lP, true) = addF t (o.traces.take (k + 1)) qd) := by unfold Hid; rw [hF2.out]; unfold addR; rw [hS.out]; rw [if_neg HP.out]
                  clear hF hF2 hS
                  go_wp2
                  go_roundw
                  case rel => exact ⟨k + 1, true, aP, cP, lP, by omega, by go_num, rfl, hFin, hA⟩
                  case measure => simp [intOf]; omega
              · have HP : Hid (hasP t.inn x.inn = false ∨ t.inn.length = x.inn.length) := .inl (by simpa using hp)
                have hp : hasP t.inn x.inn = false := by simpa using hp
                have HC := Lib.hid (haspR_is (HTS.out.1.below hA.B) (HXS.out.1.below hA.B) (v := false) hp)
                have hyy := hA.y
                obtain ⟨hx1, hx2⟩ := cells2 HX.out
                clear hx2
                go_wp2_with fail
                refine (HC.out).mono ?_
                rintro e v2 ⟨rfl, hb⟩
                have hA := hA.later hb
                have HX := Lib.hid ((hb.block sb hsu).trans HX.out)
                have hsu : sb < v2.heap.size := Nat.lt_of_lt_of_le hsu hb.size
                have hyy := hA.y
                obtain ⟨hx1, hx2⟩ := cells2 HX.out
                clear hx2 hb HC
                clear hp
                go_wp2
                refine wp_region_T (fun w' => T2 w' (sb) a1 c1 a2 c2 x ∧ w'.cell? ⟨w.heap.size + 3, 1, none⟩ = some (.slice aP lP.length cP)) [0, 1, 2, 6] (by kernel_rfl) ?_
                have hb0 := (Below.refl v2.heap.size v2).drew
                have hA0 := hA.later hb0
                have HX0 := Lib.hid ((hb0.block sb hsu).trans HX.out)
                have hsu0 : sb < v2.drew.heap.size := hsu
                have hSS := And.intro ((cells2 HX0.out).1) hA0.cell
                clear hA hb0 HX hsu
                generalize v2.drew = p4 at *
                refine wpAnyT_take (i := 0) (v := ?v134) rfl (by kernel_rfl) (by kernel_rfl) (by kernel_rfl) (by kernel_rfl) (by kernel_rfl) (fun _ _ _ h => h) (Or.inl ⟨by rfl, ?y134⟩) (by assumption) ?r134
                case y134 => (intro w' hSw; (try dsimp only at hSw); go_simp; try with_reducible rfl)
                try simp only [Act.put, List.setIfInBounds_toArray, List.set_cons_zero, List.set_cons_succ]
                refine wpAnyT_take (i := 1) (v := ?v135) rfl (by kernel_rfl) (by kernel_rfl) (by kernel_rfl) (by kernel_rfl) (by kernel_rfl) (fun _ _ _ h => h) (Or.inl ⟨by rfl, ?y135⟩) (by assumption) ?r135
                case y135 => (intro w' hSw; (try dsimp only at hSw); go_simp; try with_reducible rfl)
                try simp only [Act.put, List.setIfInBounds_toArray, List.set_cons_zero, List.set_cons_succ]
                refine wpAnyT_take (i := 2) (v := ?v136) rfl (by kernel_rfl) (by kernel_rfl) (by kernel_rfl) (by kernel_rfl) (by kernel_rfl) (fun _ _ _ h => h) (Or.inl ⟨by rfl, ?y136⟩) (by assumption) ?r136
                case y136 => (intro w' hSw; (try dsimp only at hSw); go_simp; try with_reducible rfl)
                try simp only [Act.put, List.setIfInBounds_toArray, List.set_cons_zero, List.set_cons_succ]
                refine wpAnyT_one (i := 3) (by kernel_rfl) rfl rfl (fun K hK => ?_)
                go_simp
                refine (copied_any (HXS.out.1.below hA0.B) (HXS.out.2.below hA0.B) hxl.out.1 hxl.out.2).mono ?_
                rintro e q4 ⟨a5, c5, l5, a6, c6, l6, rfl, hl5, hs5, hs6, hb⟩
                have hA1 := hA0.later hb
                have hz0 := hA0.z
                have hz1 := hA1.z
                have HX1 := Lib.hid ((hb.block sb hsu0).trans HX0.out)
                have hsu1 : sb < q4.heap.size := Nat.lt_of_lt_of_le hsu0 hb.size
                have hSS1 := And.intro ((cells2 HX1.out).1) hA1.cell
                refine hK _ _ (fun _ => hSS1) ?_
                clear hK K hSS HX0 hsu0
                try simp only [Act.put, List.setIfInBounds_toArray, List.set_cons_zero, List.set_cons_succ]
                refine wpAnyT_one (i := 4) (by kernel_rfl) rfl rfl (fun K hK => ?_)
                go_simp
                have hba := (Below.refl q4.heap.size q4).alloc (Nat.le_refl _) (.cells #[.slice a5 l5.length c5, .slice a6 l6.length c6] 61)
                have hA2 := hA1.later hba
                have HX2 := Lib.hid ((hba.block sb hsu1).trans HX1.out)
                have hsu2 := Nat.lt_of_lt_of_le hsu1 hba.size
                have hSS2 := And.intro ((cells2 HX2.out).1) hA2.cell
                refine hK _ _ (fun _ => hSS2) ?_
                clear hK K hSS1
                try simp only [Act.put, List.setIfInBounds_toArray, List.set_cons_zero, List.set_cons_succ]
                refine wpAnyT_one (i := 5) (by kernel_rfl) rfl rfl (fun K hK => ?_)
                have hkq : ∀ i, mayT (w.heap.size + 4) (.slice aP lP.length cP) i → i < p4.heap.size := fun i hi => by
                  rcases hi with hi | hi
                  · exact (hA0.q.lt i hi).2
                  · omega
                refine wp_push_tr (N := w.heap.size + 4) (B := w.heap.size + 4) (v := .slice aP lP.length cP) (l := lP) (q := ⟨l5, l6⟩) (g := q4.heap.size) (c := 1) rfl Try.underlying27 info_trace rfl rfl (by simp [go_sem]) hA2.q (by simp) (by simp) ((hs5.below hba).anti fun i _ hi => hkq i hi) ((hs6.below hba).anti fun i _ hi => hkq i hi) (by omega) (by simp; omega) ?_
                intro aM cM lM r4 hl7 hq7 hk7 hg7
                have hb7 := (Below.refl (w.heap.size + 4) (q4.alloc (.cells #[.slice a5 l5.length c5, .slice a6 l6.length c6] 61))).grown hg7 hA2.z (fun k hk => (hA2.q.lt k hk).1)
                have hA3 := hA2.push hb7 hq7
                have hlM : Hid (lM = lP ++ [x]) := by unfold Hid; rw [hl7.out, hl5.out]
                obtain ⟨⟨k0, k1⟩, kf⟩ := cells2 ((hb7.block (w.heap.size + 3) (by omega)).trans hA2.g)
                have kf1 := kf 1
                have HX3 := Lib.hid ((hg7.block sb hsu2 (fun e => hno.out sb e.symm rfl)).trans HX2.out)
                have HX4 := Lib.hid ((Below.heap_setCell r4 ⟨w.heap.size + 3, 1, none⟩ (.slice aM lM.length cM) sb (by show sb ≠ w.heap.size + 3; omega)).trans HX3.out)
                have hno2 : Hid (∀ i, (Value.slice aM lM.length cM).ownBlock = some i → i ≠ sb) := fun i hi => by
                  rcases (hk7.out i hi).1 with h | h
                  · exact hno.out i h
                  · have : sb < i := by rw [h]; simpa using hsu2
                    omega
                have hsu4 : sb < (r4.setCell ⟨w.heap.size + 3, 1, none⟩ (.slice aM lM.length cM)).heap.size := by
                  have h := hg7.size
                  have : (r4.setCell ⟨w.heap.size + 3, 1, none⟩ (.slice aM lM.length cM)).heap.size = r4.heap.size := by simp [World.setCell]
                  omega
                have hS7 := And.intro ((cells2 HX3.out).1) k1
                refine hK _ _ (fun _ => hS7) ?_
                clear hK K hSS2 hA0 hA1 hA2 hb hba hs5 hs6 hkq hb7 hq7 hk7 hg7 hl5 hl7 hz0 hz1 HX1 HX2 HX3 hsu1 hsu2 hno
                try simp only [Act.put, List.setIfInBounds_toArray, List.set_cons_zero, List.set_cons_succ]
                refine wpAnyT_take (i := 6) (v := ?v137) rfl (by kernel_rfl) (by kernel_rfl) (by kernel_rfl) (by kernel_rfl) (by kernel_rfl) (fun _ _ _ h => h) (Or.inl ⟨by rfl, ?y137⟩) (by assumption) ?r137
                case y137 => (intro w' hSw; (try dsimp only at hSw); go_simp; try with_reducible rfl)
                try simp only [Act.put, List.setIfInBounds_toArray, List.set_cons_zero, List.set_cons_succ]
                refine wpAnyT_late (i := 7) (by kernel_rfl) (by kernel_rfl) rfl rfl (fun K hK => ?_)
                go_simp
                refine hK _ _ ?_
                clear hK K k0 k1 kf kf1 hS7
                refine wpAnyT_done (by kernel_rfl) ?_ _
                have hA := hA3
                clear hA3
                have HX := HX4
                have hno := hno2
                have hsu := hsu4
                clear HX4 hno2 hsu4
                generalize hgg : r4.setCell ⟨w.heap.size + 3, 1, none⟩ (.slice aM lM.length cM) = z2 at *
                clear hgg
                have hFin : Hid ((lM, true) = addF t (o.traces.take (k + 1)) qd) := by unfold Hid; rw [hF2.out]; unfold addR; rw [hS.out]; rw [if_pos HP.out, hlM.out]
                clear hF hF2 hS
                go_wp2
                go_roundw
                case rel => exact ⟨k + 1, true, aM, cM, lM, by omega, by go_num, rfl, hFin, hA⟩
                case measure => simp [intOf]; omega
            · have hcb : decide (cmpW t.inn x.inn < 0) = false := by simpa using hcm
              have hS := Lib.hid (show addS t x (lL, false) = (lL, false) by unfold addS; rw [if_neg (fun h => hcm h.2)])
              clear hcm
              clear hyy hx1
              by_cases hp : hasP t.inn x.inn = true
              · by_cases hle : t.inn.length = x.inn.length
                · have hlb : (((t.inn.length : Nat) : Int) == ((x.inn.length : Nat) : Int)) = true := by simp [hle]
                  have HP : Hid (hasP t.inn x.inn = false ∨ t.inn.length = x.inn.length) := .inr hle
                  clear hle
                  have HC := Lib.hid (haspR_is (HTS.out.1.below hA.B) (HXS.out.1.below hA.B) (v := true) hp)
                  have hyy := hA.y
                  obtain ⟨hx1, hx2⟩ := cells2 HX.out
                  clear hx2
                  go_wp2_with fail
                  refine (HC.out).mono ?_
                  rintro e v5 ⟨rfl, hb⟩
                  have hA := hA.later hb
                  have HX := Lib.hid ((hb.block sb hsu).trans HX.out)
                  have hsu : sb < v5.heap.size := Nat.lt_of_lt_of_le hsu hb.size
                  have hyy := hA.y
                  obtain ⟨hx1, hx2⟩ := cells2 HX.out
                  clear hx2 hb HC
                  clear hp
                  go_wp2
                  refine wp_region_T (fun w' => T2 w' (sb) a1 c1 a2 c2 x ∧ w'.cell? ⟨w.heap.size + 3, 1, none⟩ = some (.slice aL lL.length cL)) [0, 1, 2, 6] (by kernel_rfl) ?_
                  have hb0 := (Below.refl v5.heap.size v5).drew
                  have hA0 := hA.later hb0
                  have HX0 := Lib.hid ((hb0.block sb hsu).trans HX.out)
                  have hsu0 : sb < v5.drew.heap.size := hsu
                  have hSS := And.intro ((cells2 HX0.out).1) hA0.cell
                  clear hA hb0 HX hsu
                  generalize v5.drew = p6 at *
                  refine wpAnyT_take (i := 0) (v := ?v138) rfl (by kernel_rfl) (by kernel_rfl) (by kernel_rfl) (by kernel_rfl) (by kernel_rfl) (fun _ _ _ h => h) (Or.inl ⟨by rfl, ?y138⟩) (by assumption) ?r138
                  case y138 => (intro w' hSw; (try dsimp only at hSw); go_simp; try with_reducible rfl)
                  try simp only [Act.put, List.setIfInBounds_toArray, List.set_cons_zero, List.set_cons_succ]
                  refine wpAnyT_take (i := 1) (v := ?v139) rfl (by kernel_rfl) (by kernel_rfl) (by kernel_rfl) (by kernel_rfl) (by kernel_rfl) (fun _ _ _ h => h) (Or.inl ⟨by rfl, ?y139⟩) (by assumption) ?r139
                  case y139 => (intro w' hSw; (try dsimp only at hSw); go_simp; try with_reducible rfl)
                  try simp only [Act.put, List.setIfInBounds_toArray, List.set_cons_zero, List.set_cons_succ]
                  refine wpAnyT_take (i := 2) (v := ?v140) rfl (by kernel_rfl) (by kernel_rfl) (by kernel_rfl) (by kernel_rfl) (by kernel_rfl) (fun _ _ _ h => h) (Or.inl ⟨by rfl, ?y140⟩) (by assumption) ?r140
                  case y140 => (intro w' hSw; (try dsimp only at hSw); go_simp; try with_reducible rfl)
                  try simp only [Act.put, List.setIfInBounds_toArray, List.set_cons_zero, List.set_cons_succ]
                  refine wpAnyT_one (i := 3) (by kernel_rfl) rfl rfl (fun K hK => ?_)
                  go_simp
                  refine (copied_any (HXS.out.1.below hA0.B) (HXS.out.2.below hA0.B) hxl.out.1 hxl.out.2).mono ?_
                  rintro e q6 ⟨a5, c5, l5, a6, c6, l6, rfl, hl5, hs5, hs6, hb⟩
                  have hA1 := hA0.later hb
                  have hz0 := hA0.z
                  have hz1 := hA1.z
                  have HX1 := Lib.hid ((hb.block sb hsu0).trans HX0.out)
                  have hsu1 : sb < q6.heap.size := Nat.lt_of_lt_of_le hsu0 hb.size
                  have hSS1 := And.intro ((cells2 HX1.out).1) hA1.cell
                  refine hK _ _ (fun _ => hSS1) ?_
                  clear hK K hSS HX0 hsu0
                  try simp only [Act.put, List.setIfInBounds_toArray, List.set_cons_zero, List.set_cons_succ]
                  refine wpAnyT_one (i := 4) (by kernel_rfl) rfl rfl (fun K hK => ?_)
                  go_simp
                  have hba := (Below.refl q6.heap.size q6).alloc (Nat.le_refl _) (.cells #[.slice a5 l5.length c5, .slice a6 l6.length c6] 61)
                  have hA2 := hA1.later hba
                  have HX2 := Lib.hid ((hba.block sb hsu1).trans HX1.out)
                  have hsu2 := Nat.lt_of_lt_of_le hsu1 hba.size
                  have hSS2 := And.intro ((cells2 HX2.out).1) hA2.cell
                  refine hK _ _ (fun _ => hSS2) ?_
                  clear hK K hSS1
                  try simp only [Act.put, List.setIfInBounds_toArray, List.set_cons_zero, List.set_cons_succ]
                  refine wpAnyT_one (i := 5) (by kernel_rfl) rfl rfl (fun K hK => ?_)
                  have hkq : ∀ i, mayT (w.heap.size + 4) (.slice aL lL.length cL) i → i < p6.heap.size := fun i hi => by
                    rcases hi with hi | hi
                    · exact (hA0.q.lt i hi).2
                    · omega
                  refine wp_push_tr (N := w.heap.size + 4) (B := w.heap.size + 4) (v := .slice aL lL.length cL) (l := lL) (q := ⟨l5, l6⟩) (g := q6.heap.size) (c := 1) rfl Try.underlying27 info_trace rfl rfl (by simp [go_sem]) hA2.q (by simp) (by simp) ((hs5.below hba).anti fun i _ hi => hkq i hi) ((hs6.below hba).anti fun i _ hi => hkq i hi) (by omega) (by simp; omega) ?_
                  intro aM cM lM r6 hl7 hq7 hk7 hg7
                  have hb7 := (Below.refl (w.heap.size + 4) (q6.alloc (.cells #[.slice a5 l5.length c5, .slice a6 l6.length c6] 61))).grown hg7 hA2.z (fun k hk => (hA2.q.lt k hk).1)
                  have hA3 := hA2.push hb7 hq7
                  have hlM : Hid (lM = lL ++ [x]) := by unfold Hid; rw [hl7.out, hl5.out]
                  obtain ⟨⟨k0, k1⟩, kf⟩ := cells2 ((hb7.block (w.heap.size + 3) (by omega)).trans hA2.g)
                  have kf1 := kf 1
                  have HX3 := Lib.hid ((hg7.block sb hsu2 (fun e => hno.out sb e.symm rfl)).trans HX2.out)
                  have HX4 := Lib.hid ((Below.heap_setCell r6 ⟨w.heap.size + 3, 1, none⟩ (.slice aM lM.length cM) sb (by show sb ≠ w.heap.size + 3; omega)).trans HX3.out)
                  have hno2 : Hid (∀ i, (Value.slice aM lM.length cM).ownBlock = some i → i ≠ sb) := fun i hi => by
                    rcases (hk7.out i hi).1 with h | h
                    · exact hno.out i h
                    · have : sb < i := by rw [h]; simpa using hsu2
                      omega
                  have hsu4 : sb < (r6.setCell ⟨w.heap.size + 3, 1, none⟩ (.slice aM lM.length cM)).heap.size := by
                    have h := hg7.size
                    have : (r6.setCell ⟨w.heap.size + 3, 1, none⟩ (.slice aM lM.length cM)).heap.size = r6.heap.size := by simp [World.setCell]
                    omega
                  have hS7 := And.intro ((cells2 HX3.out).1) k1
                  refine hK _ _ (fun _ => hS7) ?_
                  clear hK K hSS2 hA0 hA1 hA2 hb hba hs5 hs6 hkq hb7 hq7 hk7 hg7 hl5 hl7 hz0 hz1 HX1 HX2 HX3 hsu1 hsu2 hno
                  try simp only [Act.put, List.setIfInBounds_toArray, List.set_cons_zero, List.set_cons_succ]
                  refine wpAnyT_take (i := 6) (v := ?v141) rfl (by kernel_rfl) (by kernel_rfl) (by kernel_rfl) (by kernel_rfl) (by kernel_rfl) (fun _ _ _ h => h) (Or.inl ⟨by rfl, ?y141⟩) (by assumption) ?r141
                  case y141 => (intro w' hSw; (try dsimp only at hSw); go_simp; try with_reducible rfl)
                  try simp only [Act.put, List.setIfInBounds_toArray, List.set_cons_zero, List.set_cons_succ]
                  refine wpAnyT_late (i := 7) (by kernel_rfl) (by kernel_rfl) rfl rfl (fun K hK => ?_)
                  go_simp
                  refine hK _ _ ?_
                  clear hK K k0 k1 kf kf1 hS7
                  refine wpAnyT_done (by kernel_rfl) ?_ _
                  have hA := hA3
                  clear hA3
                  have HX := HX4
                  have hno := hno2
                  have hsu := hsu4
                  clear HX4 hno2 hsu4
                  generalize hgg : r6.setCell ⟨w.heap.size + 3, 1, none⟩ (.slice aM lM.length cM) = z5 at *
                  clear hgg
                  have hFin : Hid ((lM, false) = addF t (o.traces.take (k + 1)) qd) := by unfold Hid; rw [hF2.out]; unfold addR; rw [hS.out]; rw [if_pos HP.out, hlM.out]
                  clear hF hF2 hS
                  go_wp2
                  go_roundw
                  case rel => exact ⟨k + 1, false, aM, cM, lM, by omega, by go_num, rfl, hFin, hA⟩
                  case measure => simp [intOf]; omega
                · have hlb : (((t.inn.length : Nat) : Int) == ((x.inn.length : Nat) : Int)) = false := by simp; omega
                  have HP : Hid (¬ (hasP t.inn x.inn = false ∨ t.inn.length = x.inn.length)) := by unfold Hid; simp [hp, hle]
                  clear hle
                  have HC := Lib.hid (haspR_is (HTS.out.1.below hA.B) (HXS.out.1.below hA.B) (v := true) hp)
                  have hyy := hA.y
                  obtain ⟨hx1, hx2⟩ := cells2 HX.out
                  clear hx2
                  go_wp2_with fail
                  refine (HC.out).mono ?_
                  rintro e v5 ⟨rfl, hb⟩
                  have hA := hA.later hb
                  have HX := Lib.hid ((hb.block sb hsu).trans HX.out)
                  have hsu : sb < v5.heap.size := Nat.lt_of_lt_of_le hsu hb.size
                  have hyy := hA.y
                  obtain ⟨hx1, hx2⟩ := cells2 HX.out
                  clear hx2 hb HC
                  clear hp
                  have hFin : Hid ((lL, false) = addF t (o.traces.take (k + 1)) qd) := by unfold Hid; rw [hF2.out]; unfold addR; rw [hS.out]; rw [if_neg HP.out]
                  clear hF hF2 hS
                  go_wp2
                  go_roundw
                  case rel => exact ⟨k + 1, false, aL, cL, lL, by omega, by go_num, rfl, hFin, hA⟩
                  case measure => simp [intOf]; omega
              · have HP : Hid (hasP t.inn x.inn = false ∨ t.inn.length = x.inn.length) := .inl (by simpa using hp)
                have hp : hasP t.inn x.inn = false := by simpa using hp
                have HC := Lib.hid (haspR_is (HTS.out.1.below hA.B) (HXS.out.1.below hA.B) (v := false) hp)
                have hyy := hA.y
                obtain ⟨hx1, hx2⟩ := cells2 HX.out
                clear hx2
                go_wp2_with fail
                refine (HC.out).mono ?_
                rintro e v5 ⟨rfl, hb⟩
                have hA := hA.later hb
                have HX := Lib.hid ((hb.block sb hsu).trans HX.out)
                have hsu : sb < v5.heap.size := Nat.lt_of_lt_of_le hsu hb.size
                have hyy := hA.y
                obtain ⟨hx1, hx2⟩ := cells2 HX.out
                clear hx2 hb HC
                clear hp
                go_wp2
                refine wp_region_T (fun w' => T2 w' (sb) a1 c1 a2 c2 x ∧ w'.cell? ⟨w.heap.size + 3, 1, none⟩ = some (.slice aL lL.length cL)) [0, 1, 2, 6] (by kernel_rfl) ?_
                have hb0 := (Below.refl v5.heap.size v5).drew
                have hA0 := hA.later hb0
                have HX0 := Lib.hid ((hb0.block sb hsu).trans HX.out)
                have hsu0 : sb < v5.drew.heap.size := hsu
                have hSS := And.intro ((cells2 HX0.out).1) hA0.cell
                clear hA hb0 HX hsu
                generalize v5.drew = p7 at *
                refine wpAnyT_take (i := 0) (v := ?v142) rfl (by kernel_rfl) (by kernel_rfl) (by kernel_rfl) (by kernel_rfl) (by kernel_rfl) (fun _ _ _ h => h) (Or.inl ⟨by rfl, ?y142⟩) (by assumption) ?r142
                case y142 => (intro w' hSw; (try dsimp only at hSw); go_simp; try with_reducible rfl)
                try simp only [Act.put, List.setIfInBounds_toArray, List.set_cons_zero, List.set_cons_succ]
                refine wpAnyT_take (i := 1) (v := ?v143) rfl (by kernel_rfl) (by kernel_rfl) (by kernel_rfl) (by kernel_rfl) (by kernel_rfl) (fun _ _ _ h => h) (Or.inl ⟨by rfl, ?y143⟩) (by assumption) ?r143
                case y143 => (intro w' hSw; (try dsimp only at hSw); go_simp; try with_reducible rfl)
                try simp only [Act.put, List.setIfInBounds_toArray, List.set_cons_zero, List.set_cons_succ]
                refine wpAnyT_take (i := 2) (v := ?v144) rfl (by kernel_rfl) (by kernel_rfl) (by kernel_rfl) (by kernel_rfl) (by kernel_rfl) (fun _ _ _ h => h) (Or.inl ⟨by rfl, ?y144⟩) (by assumption) ?r144
                case y144 => (intro w' hSw; (try dsimp only at hSw); go_simp; try with_reducible rfl)
                try simp only [Act.put, List.setIfInBounds_toArray, List.set_cons_zero, List.set_cons_succ]
                refine wpAnyT_one (i := 3) (by kernel_rfl) rfl rfl (fun K hK => ?_)
                go_simp
                refine (copied_any (HXS.out.1.below hA0.B) (HXS.out.2.below hA0.B) hxl.out.1 hxl.out.2).mono ?_
                rintro e q7 ⟨a5, c5, l5, a6, c6, l6, rfl, hl5, hs5, hs6, hb⟩
                have hA1 := hA0.later hb
                have hz0 := hA0.z
                have hz1 := hA1.z
                have HX1 := Lib.hid ((hb.block sb hsu0).trans HX0.out)
                have hsu1 : sb < q7.heap.size := Nat.lt_of_lt_of_le hsu0 hb.size
                have hSS1 := And.intro ((cells2 HX1.out).1) hA1.cell
                refine hK _ _ (fun _ => hSS1) ?_
                clear hK K hSS HX0 hsu0
                try simp only [Act.put, List.setIfInBounds_toArray, List.set_cons_zero, List.set_cons_succ]
                refine wpAnyT_one (i := 4) (by kernel_rfl) rfl rfl (fun K hK => ?_)
                go_simp
                have hba := (Below.refl q7.heap.size q7).alloc (Nat.le_refl _) (.cells #[.slice a5 l5.length c5, .slice a6 l6.length c6] 61)
                have hA2 := hA1.later hba
                have HX2 := Lib.hid ((hba.block sb hsu1).trans HX1.out)
                have hsu2 := Nat.lt_of_lt_of_le hsu1 hba.size
                have hSS2 := And.intro ((cells2 HX2.out).1) hA2.cell
                refine hK _ _ (fun _ => hSS2) ?_
                clear hK K hSS1
                try simp only [Act.put, List.setIfInBounds_toArray, List.set_cons_zero, List.set_cons_succ]
                refine wpAnyT_one (i := 5) (by kernel_rfl) rfl rfl (fun K hK => ?_)
                have hkq : ∀ i, mayT (w.heap.size + 4) (.slice aL lL.length cL) i → i < p7.heap.size := fun i hi => by
                  rcases hi with hi | hi
                  · exact (hA0.q.lt i hi).2
                  · omega
                refine wp_push_tr (N := w.heap.size + 4) (B := w.heap.size + 4) (v := .slice aL lL.length cL) (l := lL) (q := ⟨l5, l6⟩) (g := q7.heap.size) (c := 1) rfl Try.underlying27 info_trace rfl rfl (by simp [go_sem]) hA2.q (by simp) (by simp) ((hs5.below hba).anti fun i _ hi => hkq i hi) ((hs6.below hba).anti fun i _ hi => hkq i hi) (by omega) (by simp; omega) ?_
                intro aM cM lM r7 hl7 hq7 hk7 hg7
                have hb7 := (Below.refl (w.heap.size + 4) (q7.alloc (.cells #[.slice a5 l5.length c5, .slice a6 l6.length c6] 61))).grown hg7 hA2.z (fun k hk => (hA2.q.lt k hk).1)
                have hA3 := hA2.push hb7 hq7
                have hlM : Hid (lM = lL ++ [x]) := by unfold Hid; rw [hl7.out, hl5.out]
                obtain ⟨⟨k0, k1⟩, kf⟩ := cells2 ((hb7.block (w.heap.size + 3) (by omega)).trans hA2.g)
                have kf1 := kf 1
                have HX3 := Lib.hid ((hg7.block sb hsu2 (fun e => hno.out sb e.symm rfl)).trans HX2.out)
                have HX4 := Lib.hid ((Below.heap_setCell r7 ⟨w.heap.size + 3, 1, none⟩ (.slice aM lM.length cM) sb (by show sb ≠ w.heap.size + 3; omega)).trans HX3.out)
                have hno2 : Hid (∀ i, (Value.slice aM lM.length cM).ownBlock = some i → i ≠ sb) := fun i hi => by
                  rcases (hk7.out i hi).1 with h | h
                  · exact hno.out i h
                  · have : sb < i := by rw [h]; simpa using hsu2
                    omega
                have hsu4 : sb < (r7.setCell ⟨w.heap.size + 3, 1, none⟩ (.slice aM lM.length cM)).heap.size := by
                  have h := hg7.size
                  have : (r7.setCell ⟨w.heap.size + 3, 1, none⟩ (.slice aM lM.length cM)).heap.size = r7.heap.size := by simp [World.setCell]
                  omega
                have hS7 := And.intro ((cells2 HX3.out).1) k1
                refine hK _ _ (fun _ => hS7) ?_
                clear hK K hSS2 hA0 hA1 hA2 hb hba hs5 hs6 hkq hb7 hq7 hk7 hg7 hl5 hl7 hz0 hz1 HX1 HX2 HX3 hsu1 hsu2 hno
                try simp only [Act.put, List.setIfInBounds_toArray, List.set_cons_zero, List.set_cons_succ]
                refine wpAnyT_take (i := 6) (v := ?v145) rfl (by kernel_rfl) (by kernel_rfl) (by kernel_rfl) (by kernel_rfl) (by kernel_rfl) (fun _ _ _ h => h) (Or.inl ⟨by rfl, ?y145⟩) (by assumption) ?r145
                case y145 => (intro w' hSw; (try dsimp only at hSw); go_simp; try with_reducible rfl)
                try simp only [Act.put, List.setIfInBounds_toArray, List.set_cons_zero, List.set_cons_succ]
                refine wpAnyT_late (i := 7) (by kernel_rfl) (by kernel_rfl) rfl rfl (fun K hK => ?_)
                go_simp
                refine hK _ _ ?_
                clear hK K k0 k1 kf kf1 hS7
                refine wpAnyT_done (by kernel_rfl) ?_ _
                have hA := hA3
                clear hA3
                have HX := HX4
                have hno := hno2
                have hsu := hsu4
                clear HX4 hno2 hsu4
                generalize hgg : r7.setCell ⟨w.heap.size + 3, 1, none⟩ (.slice aM lM.length cM) = z5 at *
                clear hgg
                have hFin : Hid ((lM, false) = addF t (o.traces.take (k + 1)) qd) := by unfold Hid; rw [hF2.out]; unfold addR; rw [hS.out]; rw [if_pos HP.out, hlM.out]
                clear hF hF2 hS
                go_wp2
                go_roundw
                case rel => exact ⟨k + 1, false, aM, cM, lM, by omega, by go_num, rfl, hFin, hA⟩
                case measure => simp [intOf]; omega
          · have hS := Lib.hid (show addS t x (lL, true) = (lL, true) by unfold addS; rw [if_neg (by simp)])
            by_cases hp : hasP t.inn x.inn = true
            · by_cases hle : t.inn.length = x.inn.length
              · have hlb : (((t.inn.length : Nat) : Int) == ((x.inn.length : Nat) : Int)) = true := by simp [hle]
                have HP : Hid (hasP t.inn x.inn = false ∨ t.inn.length = x.inn.length) := .inr hle
                clear hle
                have HC := Lib.hid (haspR_is (HTS.out.1.below hA0.B) (HXS.out.1.below hA0.B) (v := true) hp)
                go_wp2_with fail
                generalize hgg : w1.alloc (trO x a1 c1 a2 c2) = w2 at *
                clear hgg hx hd1 hd2 hyy hyz hz
                generalize w1.heap.size = sb at *
                have hA := hA0
                have HX := HX0
                have hsu := hsu0
                have hno := hno0
                have hsb := hsb0
                clear hA0 HX0 hsu0 hno0 hsb0
                refine (HC.out).mono ?_
                rintro e v8 ⟨rfl, hb⟩
                have hA := hA.later hb
                have HX := Lib.hid ((hb.block sb hsu).trans HX.out)
                have hsu : sb < v8.heap.size := Nat.lt_of_lt_of_le hsu hb.size
                have hyy := hA.y
                obtain ⟨hx1, hx2⟩ := cells2 HX.out
                clear hx2 hb HC
                clear hp
                go_wp2
                refine wp_region_T (fun w' => T2 w' (sb) a1 c1 a2 c2 x ∧ w'.cell? ⟨w.heap.size + 3, 1, none⟩ = some (.slice aL lL.length cL)) [0, 1, 2, 6] (by kernel_rfl) ?_
                have hb0 := (Below.refl v8.heap.size v8).drew
                have hA0 := hA.later hb0
                have HX0 := Lib.hid ((hb0.block sb hsu).trans HX.out)
                have hsu0 : sb < v8.drew.heap.size := hsu
                have hSS := And.intro ((cells2 HX0.out).1) hA0.cell
                clear hA hb0 HX hsu
                generalize v8.drew = p9 at *
                refine wpAnyT_take (i := 0) (v := ?v146) rfl (by kernel_rfl) (by kernel_rfl) (by kernel_rfl) (by kernel_rfl) (by kernel_rfl) (fun _ _ _ h => h) (Or.inl ⟨by rfl, ?y146⟩) (by assumption) ?r146
                case y146 => (intro w' hSw; (try dsimp only at hSw); go_simp; try with_reducible rfl)
                try simp only [Act.put, List.setIfInBounds_toArray, List.set_cons_zero, List.set_cons_succ]
                refine wpAnyT_take (i := 1) (v := ?v147) rfl (by kernel_rfl) (by kernel_rfl) (by kernel_rfl) (by kernel_rfl) (by kernel_rfl) (fun _ _ _ h => h) (Or.inl ⟨by rfl, ?y147⟩) (by assumption) ?r147
                case y147 => (intro w' hSw; (try dsimp only at hSw); go_simp; try with_reducible rfl)
                try simp only [Act.put, List.setIfInBounds_toArray, List.set_cons_zero, List.set_cons_succ]
                refine wpAnyT_take (i := 2) (v := ?v148) rfl (by kernel_rfl) (by kernel_rfl) (by kernel_rfl) (by kernel_rfl) (by kernel_rfl) (fun _ _ _ h => h) (Or.inl ⟨by rfl, ?y148⟩) (by assumption) ?r148
                case y148 => (intro w' hSw; (try dsimp only at hSw); go_simp; try with_reducible rfl)
                try simp only [Act.put, List.setIfInBounds_toArray, List.set_cons_zero, List.set_cons_succ]
                refine wpAnyT_one (i := 3) (by kernel_rfl) rfl rfl (fun K hK => ?_)
                go_simp
                refine (copied_any (HXS.out.1.below hA0.B) (HXS.out.2.below hA0.B) hxl.out.1 hxl.out.2).mono ?_
                rintro e q9 ⟨a5, c5, l5, a6, c6, l6, rfl, hl5, hs5, hs6, hb⟩
                have hA1 := hA0.later hb
                have hz0 := hA0.z
                have hz1 := hA1.z
                have HX1 := Lib.hid ((hb.block sb hsu0).trans HX0.out)
                have hsu1 : sb < q9.heap.size := Nat.lt_of_lt_of_le hsu0 hb.size
                have hSS1 := And.intro ((cells2 HX1.out).1) hA1.cell
                refine hK _ _ (fun _ => hSS1) ?_
                clear hK K hSS HX0 hsu0
                try simp only [Act.put, List.setIfInBounds_toArray, List.set_cons_zero, List.set_cons_succ]
                refine wpAnyT_one (i := 4) (by kernel_rfl) rfl rfl (fun K hK => ?_)
                go_simp
                have hba := (Below.refl q9.heap.size q9).alloc (Nat.le_refl _) (.cells #[.slice a5 l5.length c5, .slice a6 l6.length c6] 61)
                have hA2 := hA1.later hba
                have HX2 := Lib.hid ((hba.block sb hsu1).trans HX1.out)
                have hsu2 := Nat.lt_of_lt_of_le hsu1 hba.size
                have hSS2 := And.intro ((cells2 HX2.out).1) hA2.cell
                refine hK _ _ (fun _ => hSS2) ?_
                clear hK K hSS1
                try simp only [Act.put, List.setIfInBounds_toArray, List.set_cons_zero, List.set_cons_succ]
                refine wpAnyT_one (i := 5) (by kernel_rfl) rfl rfl (fun K hK => ?_)
                have hkq : ∀ i, mayT (w.heap.size + 4) (.slice aL lL.length cL) i → i < p9.heap.size := fun i hi => by
                  rcases hi with hi | hi
                  · exact (hA0.q.lt i hi).2
                  · omega
                refine wp_push_tr (N := w.heap.size + 4) (B := w.heap.size + 4) (v := .slice aL lL.length cL) (l := lL) (q := ⟨l5, l6⟩) (g := q9.heap.size) (c := 1) rfl Try.underlying27 info_trace rfl rfl (by simp [go_sem]) hA2.q (by simp) (by simp) ((hs5.below hba).anti fun i _ hi => hkq i hi) ((hs6.below hba).anti fun i _ hi => hkq i hi) (by omega) (by simp; omega) ?_
                intro aM cM lM r9 hl7 hq7 hk7 hg7
                have hb7 := (Below.refl (w.heap.size + 4) (q9.alloc (.cells #[.slice a5 l5.length c5, .slice a6 l6.length c6] 61))).grown hg7 hA2.z (fun k hk => (hA2.q.lt k hk).1)
                have hA3 := hA2.push hb7 hq7
                have hlM : Hid (lM = lL ++ [x]) := by unfold Hid; rw [hl7.out, hl5.out]
                obtain ⟨⟨k0, k1⟩, kf⟩ := cells2 ((hb7.block (w.heap.size + 3) (by omega)).trans hA2.g)
                have kf1 := kf 1
                have HX3 := Lib.hid ((hg7.block sb hsu2 (fun e => hno.out sb e.symm rfl)).trans HX2.out)
                have HX4 := Lib.hid ((Below.heap_setCell r9 ⟨w.heap.size + 3, 1, none⟩ (.slice aM lM.length cM) sb (by show sb ≠ w.heap.size + 3; omega)).trans HX3.out)
                have hno2 : Hid (∀ i, (Value.slice aM lM.length cM).ownBlock = some i → i ≠ sb) := fun i hi => by
                  rcases (hk7.out i hi).1 with h | h
                  · exact hno.out i h
                  · have : sb < i := by rw [h]; simpa using hsu2
                    omega
                have hsu4 : sb < (r9.setCell ⟨w.heap.size + 3, 1, none⟩ (.slice aM lM.length cM)).heap.size := by
                  have h := hg7.size
                  have : (r9.setCell ⟨w.heap.size + 3, 1, none⟩ (.slice aM lM.length cM)).heap.size = r9.heap.size := by simp [World.setCell]
                  omega
                have hS7 := And.intro ((cells2 HX3.out).1) k1
                refine hK _ _ (fun _ => hS7) ?_
                clear hK K hSS2 hA0 hA1 hA2 hb hba hs5 hs6 hkq hb7 hq7 hk7 hg7 hl5 hl7 hz0 hz1 HX1 HX2 HX3 hsu1 hsu2 hno
                try simp only [Act.put, List.setIfInBounds_toArray, List.set_cons_zero, List.set_cons_succ]
                refine wpAnyT_take (i := 6) (v := ?v149) rfl (by kernel_rfl) (by kernel_rfl) (by kernel_rfl) (by kernel_rfl) (by kernel_rfl) (fun _ _ _ h => h) (Or.inl ⟨by rfl, ?y149⟩) (by assumption) ?r149
                case y149 => (intro w' hSw; (try dsimp only at hSw); go_simp; try with_reducible rfl)
                try simp only [Act.put, List.setIfInBounds_toArray, List.set_cons_zero, List.set_cons_succ]
                refine wpAnyT_late (i := 7) (by kernel_rfl) (by kernel_rfl) rfl rfl (fun K hK => ?_)
                go_simp
                refine hK _ _ ?_
                clear hK K k0 k1 kf kf1 hS7
                refine wpAnyT_done (by kernel_rfl) ?_ _
                have hA := hA3
                clear hA3
                have HX := HX4
                have hno := hno2
                have hsu := hsu4
                clear HX4 hno2 hsu4
                generalize hgg : r9.setCell ⟨w.heap.size + 3, 1, none⟩ (.slice aM lM.length cM) = z8 at *
                clear hgg
                have hFin : Hid ((lM, true) = addF t (o.traces.take (k + 1)) qd) := by unfold Hid; rw [hF2.out]; unfold addR; rw [hS.out]; rw [if_pos HP.out, hlM.out]
                clear hF hF2 hS
                go_wp2
                go_roundw
                case rel => exact ⟨k + 1, true, aM, cM, lM, by omega, by go_num, rfl, hFin, hA⟩
                case measure => simp [intOf]; omega
              · have hlb : (((t.inn.length : Nat) : Int) == ((x.inn.length : Nat) : Int)) = false := by simp; omega
                have HP : Hid (¬ (hasP t.inn x.inn = false ∨ t.inn.length = x.inn.length)) := by unfold Hid; simp [hp, hle]
                clear hle
                have HC := Lib.hid (haspR_is (HTS.out.1.below hA0.B) (HXS.out.1.below hA0.B) (v := true) hp)
                go_wp2_with fail
                generalize hgg : w1.alloc (trO x a1 c1 a2 c2) = w2 at *
                clear hgg hx hd1 hd2 hyy hyz hz
                generalize w1.heap.size = sb at *
                have hA := hA0
                have HX := HX0
                have hsu := hsu0
                have hno := hno0
                have hsb := hsb0
                clear hA0 HX0 hsu0 hno0 hsb0
                refine (HC.out).mono ?_
                rintro e v8 ⟨rfl, hb⟩
                have hA := hA.later hb
                have HX := Lib.hid ((hb.block sb hsu).trans HX.out)
                have hsu : sb < v8.heap.size := Nat.lt_of_lt_of_le hsu hb.size
                have hyy := hA.y
                obtain ⟨hx1, hx2⟩ := cells2 HX.out
                clear hx2 hb HC
                clear hp
                have hFin : Hid ((lL, true) = addF t (o.traces.take (k + 1)) qd) := by unfold Hid; rw [hF2.out]; unfold addR; rw [hS.out]; rw [if_neg HP.out]
                clear hF hF2 hS
                go_wp2
                go_roundw
                case rel => exact ⟨k + 1, true, aL, cL, lL, by omega, by go_num, rfl, hFin, hA⟩
                case measure => simp [intOf]; omega
            · have HP : Hid (hasP t.inn x.inn = false ∨ t.inn.length = x.inn.length) := .inl (by simpa using hp)
              have hp : hasP t.inn x.inn = false := by simpa using hp
              have HC := Lib.hid (haspR_is (HTS.out.1.below hA0.B) (HXS.out.1.below hA0.B) (v := false) hp)
              go_wp2_with fail
              generalize hgg : w1.alloc (trO x a1 c1 a2 c2) = w2 at *
              clear hgg hx hd1 hd2 hyy hyz hz
              generalize w1.heap.size = sb at *
              have hA := hA0
              have HX := HX0
              have hsu := hsu0
              have hno := hno0
              have hsb := hsb0
              clear hA0 HX0 hsu0 hno0 hsb0
              refine (HC.out).mono ?_
              rintro e v8 ⟨rfl, hb⟩
              have hA := hA.later hb
              have HX := Lib.hid ((hb.block sb hsu).trans HX.out)
              have hsu : sb < v8.heap.size := Nat.lt_of_lt_of_le hsu hb.size
              have hyy := hA.y
              obtain ⟨hx1, hx2⟩ := cells2 HX.out
              clear hx2 hb HC
              clear hp
              go_wp2
              refine wp_region_T (fun w' => T2 w' (sb) a1 c1 a2 c2 x ∧ w'.cell? ⟨w.heap.size + 3, 1, none⟩ = some (.slice aL lL.length cL)) [0, 1, 2, 6] (by kernel_rfl) ?_
              have hb0 := (Below.refl v8.heap.size v8).drew
              have hA0 := hA.later hb0
              have HX0 := Lib.hid ((hb0.block sb hsu).trans HX.out)
              have hsu0 : sb < v8.drew.heap.size := hsu
              have hSS := And.intro ((cells2 HX0.out).1) hA0.cell
              clear hA hb0 HX hsu
              generalize v8.drew = p10 at *
              refine wpAnyT_take (i := 0) (v := ?v150) rfl (by kernel_rfl) (by kernel_rfl) (by kernel_rfl) (by kernel_rfl) (by kernel_rfl) (fun _ _ _ h => h) (Or.inl ⟨by rfl, ?y150⟩) (by assumption) ?r150
              case y150 => (intro w' hSw; (try dsimp only at hSw); go_simp; try with_reducible rfl)
              try simp only [Act.put, List.setIfInBounds_toArray, List.set_cons_zero, List.set_cons_succ]
              refine wpAnyT_take (i := 1) (v := ?v151) rfl (by kernel_rfl) (by kernel_rfl) (by kernel_rfl) (by kernel_rfl) (by kernel_rfl) (fun _ _ _ h => h) (Or.inl ⟨by rfl, ?y151⟩) (by assumption) ?r151
              case y151 => (intro w' hSw; (try dsimp only at hSw); go_simp; try with_reducible rfl)
              try simp only [Act.put, List.setIfInBounds_toArray, List.set_cons_zero, List.set_cons_succ]
              refine wpAnyT_take (i := 2) (v := ?v152) rfl (by kernel_rfl) (by kernel_rfl) (by kernel_rfl) (by kernel_rfl) (by kernel_rfl) (fun _ _ _ h => h) (Or.inl ⟨by rfl, ?y152⟩) (by assumption) ?r152
              case y152 => (intro w' hSw; (try dsimp only at hSw); go_simp; try with_reducible rfl)
              try simp only [Act.put, List.setIfInBounds_toArray, List.set_cons_zero, List.set_cons_succ]
              refine wpAnyT_one (i := 3) (by kernel_rfl) rfl rfl (fun K hK => ?_)
              go_simp
              refine (copied_any (HXS.out.1.below hA0.B) (HXS.out.2.below hA0.B) hxl.out.1 hxl.out.2).mono ?_
              rintro e q10 ⟨a5, c5, l5, a6, c6, l6, rfl, hl5, hs5, hs6, hb⟩
              have hA1 := hA0.later hb
              have hz0 := hA0.z
              have hz1 := hA1.z
              have HX1 := Lib.hid ((hb.block sb hsu0).trans HX0.out)
              have hsu1 : sb < q10.heap.size := Nat.lt_of_lt_of_le hsu0 hb.size
              have hSS1 := And.intro ((cells2 HX1.out).1) hA1.cell
              refine hK _ _ (fun _ => hSS1) ?_
              clear hK K hSS HX0 hsu0
              try simp only [Act.put, List.setIfInBounds_toArray, List.set_cons_zero, List.set_cons_succ]
              refine wpAnyT_one (i := 4) (by kernel_rfl) rfl rfl (fun K hK => ?_)
              go_simp
              have hba := (Below.refl q10.heap.size q10).alloc (Nat.le_refl _) (.cells #[.slice a5 l5.length c5, .slice a6 l6.length c6] 61)
              have hA2 := hA1.later hba
              have HX2 := Lib.hid ((hba.block sb hsu1).trans HX1.out)
              have hsu2 := Nat.lt_of_lt_of_le hsu1 hba.size
              have hSS2 := And.intro ((cells2 HX2.out).1) hA2.cell
              refine hK _ _ (fun _ => hSS2) ?_
              clear hK K hSS1
              try simp only [Act.put, List.setIfInBounds_toArray, List.set_cons_zero, List.set_cons_succ]
              refine wpAnyT_one (i := 5) (by kernel_rfl) rfl rfl (fun K hK => ?_)
              have hkq : ∀ i, mayT (w.heap.size + 4) (.slice aL lL.length cL) i → i < p10.heap.size := fun i hi => by
                rcases hi with hi | hi
                · exact (hA0.q.lt i hi).2
                · omega
              refine wp_push_tr (N := w.heap.size + 4) (B := w.heap.size + 4) (v := .slice aL lL.length cL) (l := lL) (q := ⟨l5, l6⟩) (g := q10.heap.size) (c := 1) rfl Try.underlying27 info_trace rfl rfl (by simp [go_sem]) hA2.q (by simp) (by simp) ((hs5.below hba).anti fun i _ hi => hkq i hi) ((hs6.below hba).anti fun i _ hi => hkq i hi) (by omega) (by simp; omega) ?_
              intro aM cM lM r10 hl7 hq7 hk7 hg7
              have hb7 := (Below.refl (w.heap.size + 4) (q10.alloc (.cells #[.slice a5 l5.length c5, .slice a6 l6.length c6] 61))).grown hg7 hA2.z (fun k hk => (hA2.q.lt k hk).1)
              have hA3 := hA2.push hb7 hq7
              have hlM : Hid (lM = lL ++ [x]) := by unfold Hid; rw [hl7.out, hl5.out]
              obtain ⟨⟨k0, k1⟩, kf⟩ := cells2 ((hb7.block (w.heap.size + 3) (by omega)).trans hA2.g)
              have kf1 := kf 1
              have HX3 := Lib.hid ((hg7.block sb hsu2 (fun e => hno.out sb e.symm rfl)).trans HX2.out)
              have HX4 := Lib.hid ((Below.heap_setCell r10 ⟨w.heap.size + 3, 1, none⟩ (.slice aM lM.length cM) sb (by show sb ≠ w.heap.size + 3; omega)).trans HX3.out)
              have hno2 : Hid (∀ i, (Value.slice aM lM.length cM).ownBlock = some i → i ≠ sb) := fun i hi => by
                rcases (hk7.out i hi).1 with h | h
                · exact hno.out i h
                · have : sb < i := by rw [h]; simpa using hsu2
                  omega
              have hsu4 : sb < (r10.setCell ⟨w.heap.size + 3, 1, none⟩ (.slice aM lM.length cM)).heap.size := by
                have h := hg7.size
                have : (r10.setCell ⟨w.heap.size + 3, 1, none⟩ (.slice aM lM.length cM)).heap.size = r10.heap.size := by simp [World.setCell]
                omega
              have hS7 := And.intro ((cells2 HX3.out).1) k1
              refine hK _ _ (fun _ => hS7) ?_
              clear hK K hSS2 hA0 hA1 hA2 hb hba hs5 hs6 hkq hb7 hq7 hk7 hg7 hl5 hl7 hz0 hz1 HX1 HX2 HX3 hsu1 hsu2 hno
              try simp only [Act.put, List.setIfInBounds_toArray, List.set_cons_zero, List.set_cons_succ]
              refine wpAnyT_take (i := 6) (v := ?v153) rfl (by kernel_rfl) (by kernel_rfl) (by kernel_rfl) (by kernel_rfl) (by kernel_rfl) (fun _ _ _ h => h) (Or.inl ⟨by rfl, ?y153⟩) (by assumption) ?r153
              case y153 => (intro w' hSw; (try dsimp only at hSw); go_simp; try with_reducible rfl)
              try simp only [Act.put, List.setIfInBounds_toArray, List.set_cons_zero, List.set_cons_succ]
              refine wpAnyT_late (i := 7) (by kernel_rfl) (by kernel_rfl) rfl rfl (fun K hK => ?_)
              go_simp
              refine hK _ _ ?_
              clear hK K k0 k1 kf kf1 hS7
              refine wpAnyT_done (by kernel_rfl) ?_ _
              have hA := hA3
              clear hA3
              have HX := HX4
              have hno := hno2
              have hsu := hsu4
              clear HX4 hno2 hsu4
              generalize hgg : r10.setCell ⟨w.heap.size + 3, 1, none⟩ (.slice aM lM.length cM) = z8 at *
              clear hgg
              have hFin : Hid ((lM, true) = addF t (o.traces.take (k + 1)) qd) := by unfold Hid; rw [hF2.out]; unfold addR; rw [hS.out]; rw [if_pos HP.out, hlM.out]
              clear hF hF2 hS
              go_wp2
              go_roundw
              case rel => exact ⟨k + 1, true, aM, cM, lM, by omega, by go_num, rfl, hFin, hA⟩
              case measure => simp [intOf]; omega
        · have HE2 : Hid ((lL, qe) = addF t o.traces (o.inside t o.traces.length)) := by
            unfold Hid
            rw [hF.out, List.take_of_length_le (by omega), HE.out]
          have HTS := Lib.hid (And.intro HS1.out HS2.out)
          clear hF
          rcases qe with _ | _
          · have hyy := hA.y
            go_wp2
            clear hyy hx
            refine wp_region_T (fun w' => T2 w' (w.heap.size + 1) b d b' d' t ∧ w'.cell? ⟨w.heap.size + 3, 1, none⟩ = some (.slice aL lL.length cL)) [0, 1, 2, 6] (by kernel_rfl) ?_
            have hb0 := (Below.refl w1.heap.size w1).drew
            have hA0 := hA.later hb0
            have hSS := And.intro (hA0.y) hA0.cell
            clear hA hb0 
            generalize w1.drew = p11 at *
            refine wpAnyT_take (i := 0) (v := ?v154) rfl (by kernel_rfl) (by kernel_rfl) (by kernel_rfl) (by kernel_rfl) (by kernel_rfl) (fun _ _ _ h => h) (Or.inl ⟨by rfl, ?y154⟩) (by assumption) ?r154
            case y154 => (intro w' hSw; (try dsimp only at hSw); go_simp; try with_reducible rfl)
            try simp only [Act.put, List.setIfInBounds_toArray, List.set_cons_zero, List.set_cons_succ]
            refine wpAnyT_take (i := 1) (v := ?v155) rfl (by kernel_rfl) (by kernel_rfl) (by kernel_rfl) (by kernel_rfl) (by kernel_rfl) (fun _ _ _ h => h) (Or.inl ⟨by rfl, ?y155⟩) (by assumption) ?r155
            case y155 => (intro w' hSw; (try dsimp only at hSw); go_simp; try with_reducible rfl)
            try simp only [Act.put, List.setIfInBounds_toArray, List.set_cons_zero, List.set_cons_succ]
            refine wpAnyT_take (i := 2) (v := ?v156) rfl (by kernel_rfl) (by kernel_rfl) (by kernel_rfl) (by kernel_rfl) (by kernel_rfl) (fun _ _ _ h => h) (Or.inl ⟨by rfl, ?y156⟩) (by assumption) ?r156
            case y156 => (intro w' hSw; (try dsimp only at hSw); go_simp; try with_reducible rfl)
            try simp only [Act.put, List.setIfInBounds_toArray, List.set_cons_zero, List.set_cons_succ]
            refine wpAnyT_one (i := 3) (by kernel_rfl) rfl rfl (fun K hK => ?_)
            go_simp
            refine (copied_any (HTS.out.1.below hA0.B) (HTS.out.2.below hA0.B) hy1 hy2).mono ?_
            rintro e q11 ⟨a5, c5, l5, a6, c6, l6, rfl, hl5, hs5, hs6, hb⟩
            have hA1 := hA0.later hb
            have hz0 := hA0.z
            have hz1 := hA1.z
            have hSS1 := And.intro (hA1.y) hA1.cell
            refine hK _ _ (fun _ => hSS1) ?_
            clear hK K hSS 
            try simp only [Act.put, List.setIfInBounds_toArray, List.set_cons_zero, List.set_cons_succ]
            refine wpAnyT_one (i := 4) (by kernel_rfl) rfl rfl (fun K hK => ?_)
            go_simp
            have hba := (Below.refl q11.heap.size q11).alloc (Nat.le_refl _) (.cells #[.slice a5 l5.length c5, .slice a6 l6.length c6] 61)
            have hA2 := hA1.later hba
            have hSS2 := And.intro (hA2.y) hA2.cell
            refine hK _ _ (fun _ => hSS2) ?_
            clear hK K hSS1
            try simp only [Act.put, List.setIfInBounds_toArray, List.set_cons_zero, List.set_cons_succ]
            refine wpAnyT_one (i := 5) (by kernel_rfl) rfl rfl (fun K hK => ?_)
            have hkq : ∀ i, mayT (w.heap.size + 4) (.slice aL lL.length cL) i → i < p11.heap.size := fun i hi => by
              rcases hi with hi | hi
              · exact (hA0.q.lt i hi).2
              · omega
            refine wp_push_tr (N := w.heap.size + 4) (B := w.heap.size + 4) (v := .slice aL lL.length cL) (l := lL) (q := ⟨l5, l6⟩) (g := q11.heap.size) (c := 1) rfl Try.underlying27 info_trace rfl rfl (by simp [go_sem]) hA2.q (by simp) (by simp) ((hs5.below hba).anti fun i _ hi => hkq i hi) ((hs6.below hba).anti fun i _ hi => hkq i hi) (by omega) (by simp; omega) ?_
            intro aM cM lM r11 hl7 hq7 hk7 hg7
            have hb7 := (Below.refl (w.heap.size + 4) (q11.alloc (.cells #[.slice a5 l5.length c5, .slice a6 l6.length c6] 61))).grown hg7 hA2.z (fun k hk => (hA2.q.lt k hk).1)
            have hA3 := hA2.push hb7 hq7
            have hlM : Hid (lM = lL ++ [t]) := by unfold Hid; rw [hl7.out, hl5.out]
            obtain ⟨⟨k0, k1⟩, kf⟩ := cells2 ((hb7.block (w.heap.size + 3) (by omega)).trans hA2.g)
            have kf1 := kf 1
            have hS7 := And.intro (hA2.y.below hb7 (by omega)) k1
            refine hK _ _ (fun _ => hS7) ?_
            clear hK K hSS2 hA0 hA1 hA2 hb hba hs5 hs6 hkq hb7 hq7 hk7 hg7 hl5 hl7 hz0 hz1 
            try simp only [Act.put, List.setIfInBounds_toArray, List.set_cons_zero, List.set_cons_succ]
            refine wpAnyT_take (i := 6) (v := ?v157) rfl (by kernel_rfl) (by kernel_rfl) (by kernel_rfl) (by kernel_rfl) (by kernel_rfl) (fun _ _ _ h => h) (Or.inl ⟨by rfl, ?y157⟩) (by assumption) ?r157
            case y157 => (intro w' hSw; (try dsimp only at hSw); go_simp; try with_reducible rfl)
            try simp only [Act.put, List.setIfInBounds_toArray, List.set_cons_zero, List.set_cons_succ]
            refine wpAnyT_late (i := 7) (by kernel_rfl) (by kernel_rfl) rfl rfl (fun K hK => ?_)
            go_simp
            refine hK _ _ ?_
            clear hK K k0 k1 kf kf1 hS7
            refine wpAnyT_done (by kernel_rfl) ?_ _
            have hA := hA3
            clear hA3
            generalize hgg : r11.setCell ⟨w.heap.size + 3, 1, none⟩ (.slice aM lM.length cM) = w5 at *
            clear hgg
            have HN : Hid (lM = o.addT t) := by unfold Hid Ob.addT; rw [← HE2.out]; simpa using hlM.out
            obtain ⟨⟨g0, g1⟩, -⟩ := cells2 hA.g
            obtain ⟨⟨r0, r1⟩, rf⟩ := cells2 hA.r
            have rf0 := rf 0
            have rf1 := rf 1
            have hzz := hA.z
            have HR := Lib.hid (set2 (y0 := .int .i64 o.inputs) (y1 := .slice aM lM.length cM) hA.r)
            have HBn := Lib.hid (bel_st2 hA.B (g := w.heap.size + 2) (y0 := .int .i64 o.inputs) (y1 := .slice aM lM.length cM) (by omega))
            have HSn := Lib.hid ((hA.q.sl (Nat.le_refl _)).st2 (g := w.heap.size + 2) (n := w.heap.size) (y0 := .int .i64 o.inputs) (y1 := .slice aM lM.length cM) (by omega) (by omega))
            have HNn := HN
            obtain ⟨⟨q0, q1⟩, -⟩ := cells2 HR.out
            dsimp only [st2] at q0 q1 HR HBn HSn
            go_wp2
            simp only [show w.heap.size + 1 + 1 = w.heap.size + 2 from rfl]
            generalize hgg : (w5.setCell ⟨w.heap.size + 2, 0, none⟩ (.int .i64 o.inputs)).setCell ⟨w.heap.size + 2, 1, none⟩ (.slice aM lM.length cM) = wz at *
            clear hgg
            exact bodyPost_ret (v := .agg #[.int .i64 o.inputs, .slice aM lM.length cM]) (by simp [results, Try.results55, go_sem, q0, q1]) rfl ⟨aM, cM, lM, rfl, HNn, HSn.out, HBn.out⟩
          · have HN : Hid (lL = o.addT t) := by unfold Hid Ob.addT; rw [← HE2.out]; simp
            obtain ⟨⟨g0, g1⟩, -⟩ := cells2 hA.g
            obtain ⟨⟨r0, r1⟩, rf⟩ := cells2 hA.r
            have rf0 := rf 0
            have rf1 := rf 1
            have hzz := hA.z
            have HR := Lib.hid (set2 (y0 := .int .i64 o.inputs) (y1 := .slice aL lL.length cL) hA.r)
            have HBn := Lib.hid (bel_st2 hA.B (g := w.heap.size + 2) (y0 := .int .i64 o.inputs) (y1 := .slice aL lL.length cL) (by omega))
            have HSn := Lib.hid ((hA.q.sl (Nat.le_refl _)).st2 (g := w.heap.size + 2) (n := w.heap.size) (y0 := .int .i64 o.inputs) (y1 := .slice aL lL.length cL) (by omega) (by omega))
            have HNn := HN
            obtain ⟨⟨q0, q1⟩, -⟩ := cells2 HR.out
            dsimp only [st2] at q0 q1 HR HBn HSn
            go_wp2
            simp only [show w.heap.size + 1 + 1 = w.heap.size + 2 from rfl]
            generalize hgg : (w1.setCell ⟨w.heap.size + 2, 0, none⟩ (.int .i64 o.inputs)).setCell ⟨w.heap.size + 2, 1, none⟩ (.slice aL lL.length cL) = wz at *
            clear hgg
            exact bodyPost_ret (v := .agg #[.int .i64 o.inputs, .slice aL lL.length cL]) (by simp [results, Try.results55, go_sem, q0, q1]) rfl ⟨aL, cL, lL, rfl, HNn, HSn.out, HBn.out⟩
end
end Go.Proofs.Ytlgdijgfphedpaa
/- The reference's error of observations. No condition. -/
namespace Go.Proofs.Ytlgdijgfphedpaa
open Go.RowKit
section
variable {M M' : Nat → Prop} {w : World} {a b : Option Addr} {c d : Nat}

theorem take_badO {l : List Int} {k : Nat} {x : Int} (hx : l[k]? = some x) (hp : ¬ badO x) (hn : ∀ y ∈ l.take k, ¬ badO y) : ∀ y ∈ l.take (k + 1), ¬ badO y := by
  intro y hy
  rw [List.take_add_one, hx] at hy
  simp at hy
  rcases hy with hy | rfl
  · exact hn y hy
  · exact hp

set_option maxRecDepth 100000 in
set_option maxHeartbeats 2000000 in
theorem properR_any {t : Tr} (n : Int) (h1 : Sl M w a c t.inn) (h2 : Sl M' w b d t.out) :
    Calls Try.prog 30 #[trV t a c b d, .int .i64 n] w fun e w' => e = .returned (.int .i64 (t.err n)) ∧ Below w.heap.size w w' := by
  have hl1 := h1.le
  have hl2 := h2.le
  have hB0 := (Below.refl w.heap.size w).alloc (Nat.le_refl _) (trO t a c b d)
  have hx0 : T2 (w.alloc (trO t a c b d)) w.heap.size a c b d t := t2_new w
  have HC := Lib.hid (checkR1_any (h1.alloc (trO t a c b d)) n)
  have H2 := Lib.hid (h2.alloc (trO t a c b d))
  clear h1 h2
  by_cases hw : wErr t.inn n = 0
  · have hwb : (wErr t.inn n != 0) = false := by simp [hw]
    by_cases hl : t.out.length = t.inn.length
    · have hlb : (((t.out.length : Nat) : Int) != ((t.inn.length : Nat) : Int)) = false := by simp [hl]
      have HW := Lib.hid hw
      have HL := Lib.hid hl
      clear hw hl
      go_enter Try.func30, Try.ntmps30
      go_wp2_with fail
      generalize w.alloc (trO t a c b d) = w0 at *
      refine (HC.out).mono ?_
      rintro e w1 ⟨rfl, hw1⟩
      obtain rfl : w0 = w1 := hw1.symm
      clear HC
      go_wp2
      go_loop [6] (fun i => ∃ k : Nat, k ≤ t.out.length ∧ i = .int .i64 k ∧ Hid (∀ y ∈ t.out.take k, ¬ badO y)) (fun i => t.out.length - (intOf i).toNat)
      case atStart => exact ⟨0, by omega, rfl, fun y hy => by simp at hy⟩
      case round =>
        obtain ⟨k, hk, rfl, hN⟩ := hrel
        by_cases hlt : k < t.out.length
        · obtain ⟨b1, o1, x, rfl, hc1, hx, -⟩ := H2.out.at_int hlt
          by_cases h0 : x < 0
          · have HF := Lib.hid (Tr.err_o HW.out HL.out ⟨x, List.mem_of_getElem? hx.out, .inl h0⟩)
            have hd : decide (x < 0) = true := by simp [h0]
            clear h0
            go_wp2
            go_ret
            exact ⟨ret_ij HF.out.symm, hB0⟩
          · have hd : decide (x < 0) = false := by simpa using h0
            by_cases h1 : 1048576 < x
            · have HF := Lib.hid (Tr.err_o HW.out HL.out ⟨x, List.mem_of_getElem? hx.out, .inr h1⟩)
              have hd1 : decide (1048576 < x) = true := by simp [h1]
              clear h0 h1
              go_wp2
              go_ret
              exact ⟨ret_ij HF.out.symm, hB0⟩
            · have hd1 : decide (1048576 < x) = false := by simpa using h1
              have hN2 : Hid (∀ y ∈ t.out.take (k + 1), ¬ badO y) := take_badO hx.out (by unfold badO; omega) hN.out
              clear h0 h1
              go_wp2
              go_round
              case rel => exact ⟨k + 1, by omega, by go_num, hN2⟩
              case measure => simp [intOf]; omega
        · have HF := Lib.hid (Tr.err_0 HW.out HL.out (by rintro ⟨x, hx, hb⟩; exact hN.out x (by rw [List.take_of_length_le (by omega)]; exact hx) hb))
          go_wp2
          go_ret
          exact ⟨ret_ij HF.out.symm, hB0⟩
    · have hlb : (((t.out.length : Nat) : Int) != ((t.inn.length : Nat) : Int)) = true := by simp; omega
      have HF := Lib.hid (Tr.err_l hw hl)
      clear hw hl
      go_enter Try.func30, Try.ntmps30
      go_wp2_with fail
      generalize w.alloc (trO t a c b d) = w0 at *
      refine (HC.out).mono ?_
      rintro e w1 ⟨rfl, hw1⟩
      obtain rfl : w0 = w1 := hw1.symm
      clear HC
      go_wp2
      go_ret
      exact ⟨ret_ij HF.out.symm, hB0⟩
  · have hwb : (wErr t.inn n != 0) = true := by simp [hw]
    have HF := Lib.hid (Tr.err_w hw)
    clear hw
    go_enter Try.func30, Try.ntmps30
    go_wp2_with fail
    generalize w.alloc (trO t a c b d) = w0 at *
    refine (HC.out).mono ?_
    rintro e w1 ⟨rfl, hw1⟩
    obtain rfl : w0 = w1 := hw1.symm
    clear HC
    go_wp2
    go_ret
    exact ⟨ret_ij HF.out.symm, hB0⟩

theorem dif_end {s t : Tr} {k n : Nat} (hn : n = comW s.inn t.inn) (hk : n ≤ k) (h : comW (s.out.take n) (t.out.take n) = k + comW ((s.out.take n).drop k) ((t.out.take n).drop k)) : s.dif t = -1 := by
  unfold Tr.dif
  rw [← hn]
  simp only
  rw [if_neg (by omega)]
theorem dif_stop {s t : Tr} {k n : Nat} {x y : Int} (hn : n = comW s.inn t.inn) (hk : k < n) (hx : s.out[k]? = some x) (hy : t.out[k]? = some y) (hxy : x ≠ y) (h : comW (s.out.take n) (t.out.take n) = k + comW ((s.out.take n).drop k) ((t.out.take n).drop k)) : s.dif t = k := by
  unfold Tr.dif
  rw [← hn]
  have e := comW_stop h (by rw [List.getElem?_take, if_pos hk]; exact hx) (by rw [List.getElem?_take, if_pos hk]; exact hy) hxy
  simp only
  rw [e, if_pos hk]

set_option maxRecDepth 100000 in
set_option maxHeartbeats 2000000 in
theorem difR_any {a2 b2 : Option Addr} {c2 d2 : Nat} {s t : Tr} (h1 : Sl M w a c s.inn) (h2 : Sl M w b d s.out) (h3 : Sl M' w a2 c2 t.inn) (h4 : Sl M' w b2 d2 t.out) (hs : Hid (s.inn.length ≤ s.out.length ∧ t.inn.length ≤ t.out.length)) :
    Calls Try.prog 54 #[trV s a c b d, trV t a2 c2 b2 d2] w fun e w' => e = .returned (.int .i64 (s.dif t)) ∧ Below w.heap.size w w' := by
  have hl1 := h1.le
  have hl2 := h2.le
  have hl3 := h3.le
  have hl4 := h4.le
  have hB0 := ((Below.refl w.heap.size w).alloc (Nat.le_refl _) (trO s a c b d)).alloc (by simp) (trO t a2 c2 b2 d2)
  have hx0 : T2 ((w.alloc (trO s a c b d)).alloc (trO t a2 c2 b2 d2)) w.heap.size a c b d s := (t2_new w).below (B := w.heap.size + 1) ((Below.refl _ _).alloc (by simp) _) (by omega)
  have hy0 : T2 ((w.alloc (trO s a c b d)).alloc (trO t a2 c2 b2 d2)) (w.heap.size + 1) a2 c2 b2 d2 t := by
    have h := t2_new (t := t) (a := a2) (c := c2) (a' := b2) (c' := d2) (w.alloc (trO s a c b d))
    simpa using h
  have HC := Lib.hid (comR_any (((h1.anti (M' := fun _ => False) fun _ _ h => h.elim).alloc (trO s a c b d)).alloc (trO t a2 c2 b2 d2)) (((h3.anti (M' := fun _ => False) fun _ _ h => h.elim).alloc (trO s a c b d)).alloc (trO t a2 c2 b2 d2)))
  have H2 := Lib.hid ((h2.alloc (trO s a c b d)).alloc (trO t a2 c2 b2 d2))
  have H4 := Lib.hid ((h4.alloc (trO s a c b d)).alloc (trO t a2 c2 b2 d2))
  have hz0 : w.heap.size + 2 ≤ ((w.alloc (trO s a c b d)).alloc (trO t a2 c2 b2 d2)).heap.size := by simp
  have hle := comW_le s.inn t.inn
  obtain ⟨n, hn⟩ : ∃ n, n = comW s.inn t.inn := ⟨_, rfl⟩
  rw [← hn] at HC
  have hns : n ≤ s.out.length := by have := hs.out; omega
  have hnt : n ≤ t.out.length := by have := hs.out; omega
  have HN := Lib.hid hn
  clear h1 h2 h3 h4 hle hn
  go_enter Try.func54, Try.ntmps54
  go_wp2_with fail
  generalize (w.alloc (trO s a c b d)).alloc (trO t a2 c2 b2 d2) = w0 at *
  refine (HC.out).mono ?_
  rintro e w1 ⟨rfl, hD⟩
  have hb1 := blw hD w0.heap.size
  have hx1 := hx0.below hb1 (by omega)
  have hy1 := hy0.below hb1 (by omega)
  have hB1 := hB0.trans (hb1.mono (by omega))
  have hz1 : w.heap.size + 2 ≤ w1.heap.size := by have := hb1.size; omega
  have H2 := Lib.hid (H2.out.below hb1)
  have H4 := Lib.hid (H4.out.below hb1)
  clear HC hx0 hy0 hB0 hz0 hb1 hD
  go_wp2
  go_loopw [6] (fun i wr => ∃ k : Nat, k ≤ n ∧ i = .int .i64 k ∧ Hid (comW (s.out.take n) (t.out.take n) = k + comW ((s.out.take n).drop k) ((t.out.take n).drop k)) ∧ Hid (∃ n, wr = w1.drewN n)) (fun i _ => n - (intOf i).toNat)
  case atStart => exact ⟨0, by omega, rfl, by unfold Hid; simp, ⟨0, rfl⟩⟩
  case round =>
    obtain ⟨k, hk, rfl, hE, hD⟩ := hrel
    obtain ⟨w2, rfl⟩ : ∃ w2 : World, w2 = wr := ⟨_, rfl⟩
    have hb2 := blw hD w1.heap.size
    have hx2 := hx1.below hb2 (by omega)
    have hy2 := hy1.below hb2 (by omega)
    have hB2 := hB1.trans (hb2.mono (by omega))
    by_cases hlt : k < n
    · obtain ⟨b1, o1, x, rfl, hc1, hxk, -⟩ := (H2.out.below hb2).at_int (j := k) (by omega)
      obtain ⟨b3, o3, y, rfl, hc3, hyk, -⟩ := (H4.out.below hb2).at_int (j := k) (by omega)
      have hks : k < s.out.length := by omega
      have hkt : k < t.out.length := by omega
      by_cases hxy : x = y
      · have hb : (x != y) = false := by simp [hxy]
        have hE2 : Hid (comW (s.out.take n) (t.out.take n) = (k + 1) + comW ((s.out.take n).drop (k + 1)) ((t.out.take n).drop (k + 1))) :=
          comW_step hE.out (x := x) (by rw [List.getElem?_take, if_pos hlt]; exact hxk.out) (by rw [List.getElem?_take, if_pos hlt, hxy]; exact hyk.out)
        clear hxy
        go_wp2
        refine wp_quiet_fast (by kernel_rfl) (by kernel_rfl) ?_
        repeat (first | go_big_quiet_step (fail) | quiet_step (fail))
        refine wpQuiet_nil ?_
        intro _ hw'
        obtain ⟨nq, hw''⟩ := hw'
        subst hw''
        go_wp2
        go_roundw
        case rel => exact ⟨k + 1, by omega, by go_num, hE2, drw_add hD _⟩
        case measure => simp [intOf]; omega
      · have hb : (x != y) = true := by simp [hxy]
        have HF := Lib.hid (dif_stop HN.out hlt hxk.out hyk.out hxy hE.out)
        clear hxy
        go_wp2
        refine wp_quiet_fast (by kernel_rfl) (by kernel_rfl) ?_
        repeat (first | go_big_quiet_step (fail) | quiet_step (fail))
        refine wpQuiet_nil ?_
        intro _ hw'
        obtain ⟨nq, hw''⟩ := hw'
        subst hw''
        go_wp2
        go_ret
        exact ⟨ret_ij HF.out.symm, bl_drewN hB2 _⟩
    · have HF := Lib.hid (dif_end HN.out (by omega) hE.out)
      go_wp2
      go_ret
      exact ⟨ret_ij HF.out.symm, hB2⟩
end
end Go.Proofs.Ytlgdijgfphedpaa
/- The reference's Add. Condition: valid observations' sizes. Printed by wip/mkaddall.py. -/
namespace Go.Proofs.Ytlgdijgfphedpaa
open Go.RowKit
theorem ret_ad {x : Value} {i j : Int} (h : j = i) : Ending.returned (.tuple #[x, .int .i64 i]) = .returned (.tuple #[x, .int .i64 j]) := by rw [h]
/-- Boxes of o and t, and the result's cell. -/
structure AdJ (w u : World) (a : Option Addr) (c : Nat) (o : Ob) (b : Option Addr) (d : Nat) (b' : Option Addr) (d' : Nat) (t : Tr) : Prop where
  x : O2 u w.heap.size a c o
  y : T2 u (w.heap.size + 1) b d b' d' t
  r : u.heap[w.heap.size + 2]? = some (.cells #[.int .i64 0, .slice none 0 0] 29 (0, 0))
  B : Below w.heap.size w u
  z : w.heap.size + 3 ≤ u.heap.size
namespace AdJ
variable {w u u' : World} {a : Option Addr} {c : Nat} {o : Ob} {b : Option Addr} {d : Nat} {b' : Option Addr} {d' : Nat} {t : Tr}
theorem later (h : AdJ w u a c o b d b' d' t) (hb : Below u.heap.size u u') : AdJ w u' a c o b d b' d' t := by
  have hz := h.z
  exact ⟨h.x.below hb (by omega), h.y.below hb (by omega), (hb.block _ (by omega)).trans h.r, h.B.trans (hb.mono (by omega)), by have := hb.size; omega⟩
theorem new (w : World) (a c o b d b' d' t) : AdJ w (((w.alloc (obO o a c)).alloc (trO t b d b' d')).alloc zeOb) a c o b d b' d' t := by
  have k1 := o2_new (o := o) (a := a) (c := c) w
  have k2 := t2_new (t := t) (a := b) (c := d) (a' := b') (c' := d') (w.alloc (obO o a c))
  have k3 := heap_alloc_new ((w.alloc (obO o a c)).alloc (trO t b d b' d')) zeOb
  have e : ∀ (v : World) (ob : Obj), Below v.heap.size v (v.alloc ob) := fun v ob => (Below.refl _ _).alloc (Nat.le_refl _) ob
  have b1 := e w (obO o a c)
  have b2 := e (w.alloc (obO o a c)) (trO t b d b' d')
  have b3 := e ((w.alloc (obO o a c)).alloc (trO t b d b' d')) zeOb
  refine ⟨(k1.below b2 (by simp)).below b3 (by simp; omega), ?_, ?_, b1.trans ((b2.mono (by simp)).trans (b3.mono (by simp; omega))), by simp⟩
  · have := k2.below b3 (by simp)
    simpa using this
  · simpa using k3
end AdJ
section
variable {M M' M'' : Nat → Prop} {w : World} {a b b' : Option Addr} {c d d' : Nat} {t : Tr} {o : Ob}
set_option maxRecDepth 100000 in
set_option maxHeartbeats 8000000 in
theorem addAR_any (ho : Os M w a c o) (h1 : Sl M' w b d t.inn) (h2 : Sl M' w b' d' t.out) (hn : o.traces.length ≤ 10000) (hlen : Hid o.lens) :
    Calls Try.prog 26 #[obV o a c, trV t b d b' d'] w fun e w' => ∃ (a' : Option Addr) (c' : Nat) (l : List Tr), e = .returned (.tuple #[.agg #[.int .i64 o.inputs, .slice a' l.length c'], .int .i64 (o.addE t)]) ∧ Hid (l = (o.addO t).traces) ∧
      Sl (fun k => M k ∧ k < w.heap.size) w' a' c' l ∧ Below w.heap.size w w' := by
  have hJ0 := AdJ.new w a c o b d b' d' t
  have HO := Lib.hid ho
  have HS := Lib.hid (And.intro h1 h2)
  have HJ0 := Lib.hid hJ0
  have hx0 := hJ0.x
  have hy0 := hJ0.y
  have HC := Lib.hid (properR_any o.inputs (h1.below hJ0.B) (h2.below hJ0.B))
  clear ho h1 h2 hJ0
  by_cases hte : t.err o.inputs = 0
  · have hteb : (t.err o.inputs != 0) = false := by simp [hte]
    have HE := Lib.hid hte
    clear hte
    go_enter Try.func26, Try.ntmps26
    go_wp2_with fail
    generalize ((w.alloc (obO o a c)).alloc (trO t b d b' d')).alloc zeOb = w0 at *
    refine (HC.out).mono ?_
    rintro e w1 ⟨rfl, hb1⟩
    have hJ1 := HJ0.out.later hb1
    clear HJ0 hx0 hy0 HC hb1
    have hx1 := hJ1.x
    have hy1 := hJ1.y
    go_wp2
    have hls := Lib.hid (Tr.of_err HE.out).2.1
    have htw := wErr_len (Tr.of_err HE.out).1
    go_loopw [7] (fun i wr => ∃ k : Nat, k ≤ o.traces.length ∧ i = .int .i64 k ∧ Hid (o.clash t k = false) ∧ AdJ w wr a c o b d b' d' t) (fun i _ => o.traces.length - (intOf i).toNat)
    case atStart => exact ⟨0, by omega, rfl, by unfold Hid Ob.clash; simp, hJ1⟩
    case round =>
      clear hJ1 hx1 hy1
      obtain ⟨k, hk, rfl, hN, hJ⟩ := hrel
      obtain ⟨w1, rfl⟩ : ∃ w1 : World, w1 = wr := ⟨_, rfl⟩
      have hx := hJ.x
      have hz := hJ.z
      by_cases hlt : k < o.traces.length
      · obtain ⟨b1, o1, a1, c1, a2, c2, x, rfl, hc1, hc2, hX, hs1, hs2⟩ := HO.out.traces.at_tr hlt
        have hbd := (Below.refl w1.heap.size w1).drew
        have hJd := hJ.later hbd
        have HK : Hid (∀ w', Below w.heap.size w w' → w'.cell? ⟨b1, o1 + k * 2, none⟩ = some (.slice a1 x.inn.length c1) ∧ w'.cell? ⟨b1, o1 + k * 2 + 1, none⟩ = some (.slice a2 x.out.length c2)) := fun w' hb' =>
          ⟨(hb'.cell (p := ⟨b1, o1 + k * 2, none⟩) (lt_of_cell hc1)).trans hc1, (hb'.cell (p := ⟨b1, o1 + k * 2 + 1, none⟩) (lt_of_cell hc2)).trans hc2⟩
        have hSS := And.intro hJd.x (And.intro (HK.out _ hJd.B) hJd.y)
        have HC := Lib.hid (difR_any (hs1.below hJd.B) (hs2.below hJd.B) (HS.out.1.below hJd.B) (HS.out.2.below hJd.B) ⟨(hlen.out x (List.mem_of_getElem? hX.out)).1, by have := hls.out; omega⟩)
        clear hc1 hc2 hs1 hs2 hbd
        go_wp2
        refine wp_region_L (fun w' => O2 w' w.heap.size (some ⟨b1, o1, none⟩) c o ∧ (w'.cell? ⟨b1, o1 + k * 2, none⟩ = some (.slice a1 x.inn.length c1) ∧ w'.cell? ⟨b1, o1 + k * 2 + 1, none⟩ = some (.slice a2 x.out.length c2)) ∧ T2 w' (w.heap.size + 1) b d b' d' t) [0, 1, 2, 3, 4, 5, 7] (by kernel_rfl) ?_
        clear hJ hx hz
        generalize w1.drew = w2 at *
        refine wpAnyL_take (i := 0) (v := ?v17) rfl (by kernel_rfl) (by kernel_rfl) (by kernel_rfl) (by kernel_rfl) (fun _ _ _ h => h) (Or.inl ⟨by rfl, ?y17⟩) (by assumption) ?r17
        case y17 => (intro w' hSw; (try dsimp only at hSw); go_simp; try with_reducible rfl)
        try simp only [Act.put, List.setIfInBounds_toArray, List.set_cons_zero, List.set_cons_succ]
        refine wpAnyL_take (i := 1) (v := ?v18) rfl (by kernel_rfl) (by kernel_rfl) (by kernel_rfl) (by kernel_rfl) (fun _ _ _ h => h) (Or.inl ⟨by rfl, ?y18⟩) (by assumption) ?r18
        case y18 => (intro w' hSw; (try dsimp only at hSw); go_simp; try with_reducible rfl)
        try simp only [Act.put, List.setIfInBounds_toArray, List.set_cons_zero, List.set_cons_succ]
        refine wpAnyL_take (i := 2) (v := ?v19) rfl (by kernel_rfl) (by kernel_rfl) (by kernel_rfl) (by kernel_rfl) (fun _ _ _ h => h) (Or.inl ⟨by rfl, ?y19⟩) (by assumption) ?r19
        case y19 => (intro w' hSw; (try dsimp only at hSw); go_simp; try with_reducible rfl)
        try simp only [Act.put, List.setIfInBounds_toArray, List.set_cons_zero, List.set_cons_succ]
        refine wpAnyL_take (i := 3) (v := ?v20) rfl (by kernel_rfl) (by kernel_rfl) (by kernel_rfl) (by kernel_rfl) (fun _ _ _ h => h) (Or.inl ⟨by rfl, ?y20⟩) (by assumption) ?r20
        case y20 => (intro w' hSw; (try dsimp only at hSw); go_simp; try with_reducible rfl)
        try simp only [Act.put, List.setIfInBounds_toArray, List.set_cons_zero, List.set_cons_succ]
        refine wpAnyL_take (i := 4) (v := ?v21) rfl (by kernel_rfl) (by kernel_rfl) (by kernel_rfl) (by kernel_rfl) (fun _ _ _ h => h) (Or.inl ⟨by rfl, ?y21⟩) (by assumption) ?r21
        case y21 => (intro w' hSw; (try dsimp only at hSw); go_simp; try with_reducible rfl)
        try simp only [Act.put, List.setIfInBounds_toArray, List.set_cons_zero, List.set_cons_succ]
        refine wpAnyL_take (i := 5) (v := ?v22) rfl (by kernel_rfl) (by kernel_rfl) (by kernel_rfl) (by kernel_rfl) (fun _ _ _ h => h) (Or.inl ⟨by rfl, ?y22⟩) (by assumption) ?r22
        case y22 => (intro w' hSw; (try dsimp only at hSw); go_simp; try with_reducible rfl)
        try simp only [Act.put, List.setIfInBounds_toArray, List.set_cons_zero, List.set_cons_succ]
        refine wpAnyL_one (i := 6) (by kernel_rfl) rfl rfl (fun K hK => ?_)
        go_simp
        refine (HC.out).mono ?_
        rintro e w3 ⟨rfl, hb3⟩
        have hJ := hJd.later hb3
        have hS3 := And.intro hJ.x (And.intro (HK.out _ hJ.B) hJ.y)
        refine hK _ _ (fun _ => hS3) ?_
        clear hK K
        refine wpAnyL_take (i := 7) (v := ?v23) rfl (by kernel_rfl) (by kernel_rfl) (by kernel_rfl) (by kernel_rfl) (fun _ _ _ h => h) (Or.inl ⟨by rfl, ?y23⟩) (by assumption) ?r23
        case y23 => (intro w' hSw; (try dsimp only at hSw); go_simp; try with_reducible rfl)
        try simp only [Act.put, List.setIfInBounds_toArray, List.set_cons_zero, List.set_cons_succ]
        refine wpAnyL_done (by kernel_rfl) ?_ _
        have hx := hJ.x
        clear HC hb3 hJd hSS hS3
        by_cases hd : 0 ≤ x.dif t
        · have HF := Lib.hid (Ob.addE_c HE.out (Ob.clash_hit hX.out hd))
          have hdd := hd
          obtain ⟨⟨r0, r1⟩, rf⟩ := cells2 hJ.r
          have rf0 := rf 0
          have rf1 := rf 1
          have hzz := hJ.z
          have HR := Lib.hid (set2 (y0 := .int .i64 o.inputs) (y1 := .slice (some ⟨b1, o1, none⟩) o.traces.length c) hJ.r)
          have HBn := Lib.hid (bel_st2 hJ.B (g := w.heap.size + 2) (y0 := .int .i64 o.inputs) (y1 := .slice (some ⟨b1, o1, none⟩) o.traces.length c) (by omega))
          have HSn := Lib.hid ((HO.out.traces.below HBn.out).anti (M' := fun k => M k ∧ k < w.heap.size) fun k _ hk => hk.1)
          obtain ⟨⟨q0, q1⟩, -⟩ := cells2 HR.out
          dsimp only [st2] at q0 q1 HR HBn HSn
          go_wp2
          simp only [show w.heap.size + 1 + 1 = w.heap.size + 2 from rfl]
          generalize hgg : (w3.setCell ⟨w.heap.size + 2, 0, none⟩ (.int .i64 o.inputs)).setCell ⟨w.heap.size + 2, 1, none⟩ (.slice (some ⟨b1, o1, none⟩) o.traces.length c) = wz at *
          clear hgg
          exact bodyPost_ret (v := .tuple #[.agg #[.int .i64 o.inputs, .slice (some ⟨b1, o1, none⟩) o.traces.length c], .int .i64 _]) (by simp [results, Try.results26, go_sem, q0, q1]; try rfl) rfl ⟨(some ⟨b1, o1, none⟩), c, o.traces, ret_ad HF.out.1, (by unfold Hid; rw [HF.out.2]), HSn.out, HBn.out⟩
        · have hN2 := Lib.hid (Ob.clash_succ hX.out hd hN.out)
          go_wp2
          go_roundw
          case rel => exact ⟨k + 1, by omega, by go_num, hN2, hJ⟩
          case measure => simp [intOf]; omega
      · have HN := Lib.hid (Ob.clash_all hlt hN.out)
        have hy := hJ.y
        clear hN
        go_wp2_with fail
        refine (addR_any (HO.out.below hJ.B) (HS.out.1.below hJ.B) (HS.out.2.below hJ.B) hn (fun x hx => ⟨by have := hlen.out x hx; omega, (hlen.out x hx).2⟩) (by omega) (by have := hls.out; omega)).mono ?_
        rintro e w4 ⟨a3, c3, l3, rfl, hl3, hs3, hb4⟩
        have hJ4 := hJ.later hb4
        have hba := (Below.refl w4.heap.size w4).alloc (Nat.le_refl _) (.cells #[.int .i64 o.inputs, .slice a3 l3.length c3] 29)
        have hsz := hb4.size
        have hs3 := (hs3.anti (M' := fun k => k < w.heap.size + 3) (fun k _ hk => by omega)).below hba
        have hJ5 := hJ4.later hba
        have hx := hJ5.x
        clear hJ hy
        have hJ := hJ5
        by_cases hlim : 10000 < l3.length
        · have HF := Lib.hid (Ob.addE_l HE.out HN.out (by rw [← hl3.out]; exact hlim))
          have hd : decide ((10000 : Int) < ((l3.length : Nat) : Int)) = true := by simp; omega
          obtain ⟨⟨r0, r1⟩, rf⟩ := cells2 hJ.r
          have rf0 := rf 0
          have rf1 := rf 1
          have hzz := hJ.z
          have HR := Lib.hid (set2 (y0 := .int .i64 o.inputs) (y1 := .slice a o.traces.length c) hJ.r)
          have HBn := Lib.hid (bel_st2 hJ.B (g := w.heap.size + 2) (y0 := .int .i64 o.inputs) (y1 := .slice a o.traces.length c) (by omega))
          have HSn := Lib.hid ((HO.out.traces.below HBn.out).anti (M' := fun k => M k ∧ k < w.heap.size) fun k _ hk => hk.1)
          obtain ⟨⟨q0, q1⟩, -⟩ := cells2 HR.out
          dsimp only [st2] at q0 q1 HR HBn HSn
          go_wp2
          simp only [show w.heap.size + 1 + 1 = w.heap.size + 2 from rfl]
          generalize hgg : ((w4.alloc (.cells #[.int .i64 o.inputs, .slice a3 l3.length c3] 29)).setCell ⟨w.heap.size + 2, 0, none⟩ (.int .i64 o.inputs)).setCell ⟨w.heap.size + 2, 1, none⟩ (.slice a o.traces.length c) = wz at *
          clear hgg
          exact bodyPost_ret (v := .tuple #[.agg #[.int .i64 o.inputs, .slice a o.traces.length c], .int .i64 _]) (by simp [results, Try.results26, go_sem, q0, q1]; try rfl) rfl ⟨a, c, o.traces, ret_ad HF.out.1, (by unfold Hid; rw [HF.out.2]), HSn.out, HBn.out⟩
        · have HF := Lib.hid (Ob.addE_0 HE.out HN.out (by rw [← hl3.out]; exact hlim))
          have hd : decide ((10000 : Int) < ((l3.length : Nat) : Int)) = false := by simp; omega
          obtain ⟨⟨r0, r1⟩, rf⟩ := cells2 hJ.r
          have rf0 := rf 0
          have rf1 := rf 1
          have hzz := hJ.z
          have HR := Lib.hid (set2 (y0 := .int .i64 o.inputs) (y1 := .slice a3 l3.length c3) hJ.r)
          have HBn := Lib.hid (bel_st2 hJ.B (g := w.heap.size + 2) (y0 := .int .i64 o.inputs) (y1 := .slice a3 l3.length c3) (by omega))
          have HSn := Lib.hid ((hs3.st2 (g := w.heap.size + 2) (n := w.heap.size) (y0 := .int .i64 o.inputs) (y1 := .slice a3 l3.length c3) (by omega) (by omega)).anti (M' := fun k => M k ∧ k < w.heap.size) fun k _ hk => hk.2)
          obtain ⟨⟨q0, q1⟩, -⟩ := cells2 HR.out
          dsimp only [st2] at q0 q1 HR HBn HSn
          go_wp2
          simp only [show w.heap.size + 1 + 1 = w.heap.size + 2 from rfl]
          generalize hgg : ((w4.alloc (.cells #[.int .i64 o.inputs, .slice a3 l3.length c3] 29)).setCell ⟨w.heap.size + 2, 0, none⟩ (.int .i64 o.inputs)).setCell ⟨w.heap.size + 2, 1, none⟩ (.slice a3 l3.length c3) = wz at *
          clear hgg
          exact bodyPost_ret (v := .tuple #[.agg #[.int .i64 o.inputs, .slice a3 l3.length c3], .int .i64 _]) (by simp [results, Try.results26, go_sem, q0, q1]; try rfl) rfl ⟨a3, c3, l3, ret_ad HF.out.1, (by unfold Hid; rw [HF.out.2, hl3.out]; rfl), HSn.out, HBn.out⟩
  · have hteb : (t.err o.inputs != 0) = true := by simp [hte]
    have HF := Lib.hid (o.addE_t hte)
    clear hte
    go_enter Try.func26, Try.ntmps26
    go_wp2_with fail
    generalize ((w.alloc (obO o a c)).alloc (trO t b d b' d')).alloc zeOb = w0 at *
    refine (HC.out).mono ?_
    rintro e w1 ⟨rfl, hb1⟩
    have hJ := HJ0.out.later hb1
    clear HJ0 hx0 hy0 HC hb1
    have hx1 := hJ.x
    have hy1 := hJ.y
    obtain ⟨⟨r0, r1⟩, rf⟩ := cells2 hJ.r
    have rf0 := rf 0
    have rf1 := rf 1
    have hzz := hJ.z
    have HR := Lib.hid (set2 (y0 := .int .i64 o.inputs) (y1 := .slice a o.traces.length c) hJ.r)
    have HBn := Lib.hid (bel_st2 hJ.B (g := w.heap.size + 2) (y0 := .int .i64 o.inputs) (y1 := .slice a o.traces.length c) (by omega))
    have HSn := Lib.hid ((HO.out.traces.below HBn.out).anti (M' := fun k => M k ∧ k < w.heap.size) fun k _ hk => hk.1)
    obtain ⟨⟨q0, q1⟩, -⟩ := cells2 HR.out
    dsimp only [st2] at q0 q1 HR HBn HSn
    go_wp2
    simp only [show w.heap.size + 1 + 1 = w.heap.size + 2 from rfl]
    generalize hgg : (w1.setCell ⟨w.heap.size + 2, 0, none⟩ (.int .i64 o.inputs)).setCell ⟨w.heap.size + 2, 1, none⟩ (.slice a o.traces.length c) = wz at *
    clear hgg
    exact bodyPost_ret (v := .tuple #[.agg #[.int .i64 o.inputs, .slice a o.traces.length c], .int .i64 _]) (by simp [results, Try.results26, go_sem, q0, q1]; try rfl) rfl ⟨a, c, o.traces, ret_ad HF.out.1, (by unfold Hid; rw [HF.out.2]), HSn.out, HBn.out⟩
end
end Go.Proofs.Ytlgdijgfphedpaa
/- The reference's All. Condition: no addition errs. Printed by wip/mkall.py. -/
namespace Go.Proofs.Ytlgdijgfphedpaa
open Go.RowKit
namespace Ob
def foldA (o : Ob) (l : List Tr) : Ob := l.foldl (fun o t => o.addO t) o
theorem foldA_succ {o : Ob} {l : List Tr} {k : Nat} {t : Tr} (h : l[k]? = some t) : o.foldA (l.take (k + 1)) = (o.foldA (l.take k)).addO t := by
  unfold foldA
  rw [List.take_add_one, h]
  simp [List.foldl_append]
theorem addO_inp {o : Ob} {t : Tr} : (o.addO t).inputs = o.inputs := by unfold addO; split <;> rfl
end Ob
/-- What the lists of All lie outside of. -/
def AdM (M : Nat → Prop) (w : World) (k : Nat) : Prop := (M k ∧ k < w.heap.size) ∨ (w.heap.size ≤ k ∧ k < w.heap.size + 3)
/-- The box of o, the result's cell, the observations so far. -/
structure AdK (M : Nat → Prop) (w u : World) (a : Option Addr) (c : Nat) (o : Ob) (aL : Option Addr) (cL : Nat) (L : List Tr) : Prop where
  x : O2 u w.heap.size a c o
  r : u.heap[w.heap.size + 1]? = some (.cells #[.int .i64 0, .slice none 0 0] 29 (0, 0))
  v : u.heap[w.heap.size + 2]? = some (.cells #[.int .i64 o.inputs, .slice aL L.length cL] 29 (0, 0))
  s : Sl (AdM M w) u aL cL L
  B : Below w.heap.size w u
  z : w.heap.size + 3 ≤ u.heap.size
namespace AdK
variable {M : Nat → Prop} {w u u' : World} {a : Option Addr} {c : Nat} {o : Ob} {aL : Option Addr} {cL : Nat} {L : List Tr}
theorem later (h : AdK M w u a c o aL cL L) (hb : Below u.heap.size u u') : AdK M w u' a c o aL cL L := by
  have hz := h.z
  exact ⟨h.x.below hb (by omega), (hb.block _ (by omega)).trans h.r, (hb.block _ (by omega)).trans h.v, h.s.below hb, h.B.trans (hb.mono (by omega)), by have := hb.size; omega⟩
theorem cells (h : AdK M w u a c o aL cL L) : u.cell? ⟨w.heap.size + 2, 0, none⟩ = some (.int .i64 o.inputs) ∧ u.cell? ⟨w.heap.size + 2, 1, none⟩ = some (.slice aL L.length cL) := (cells2 h.v).1
theorem next {a3 : Option Addr} {c3 g : Nat} {l3 : List Tr} (h : AdK M w u a c o aL cL L) (hg : w.heap.size + 3 ≤ g) (hs : Sl (fun k => AdM M w k ∨ k = g) u a3 c3 l3) :
    AdK M w (st2 (st2 u g (.int .i64 o.inputs) (.slice a3 l3.length c3)) (w.heap.size + 2) (.int .i64 o.inputs) (.slice a3 l3.length c3)) a c o a3 c3 l3 := by
  have hz := h.z
  have b1 := bel_st2 (Below.refl g u) (g := g) (y0 := .int .i64 o.inputs) (y1 := .slice a3 l3.length c3) (Nat.le_refl _)
  have b2 := bel_st2 (b1.mono (show w.heap.size + 2 ≤ g by omega)) (g := w.heap.size + 2) (y0 := .int .i64 o.inputs) (y1 := .slice a3 l3.length c3) (Nat.le_refl _)
  have hm : AdM M w (w.heap.size + 2) := .inr ⟨by omega, by omega⟩
  refine ⟨h.x.below b2 (by omega), (b2.block _ (by omega)).trans h.r, set2 ((b1.block _ (by omega)).trans h.v), ?_, h.B.trans (b2.mono (by omega)), by have := b2.size; omega⟩
  exact (hs.ext ((Ext.setCell u (p := ⟨g, 0, none⟩) (.inr rfl) _).trans ((Ext.setCell _ (p := ⟨g, 1, none⟩) (.inr rfl) _).trans ((Ext.setCell _ (p := ⟨w.heap.size + 2, 0, none⟩) (.inl hm) _).trans (Ext.setCell _ (p := ⟨w.heap.size + 2, 1, none⟩) (.inl hm) _))))).anti fun k _ hk => .inl hk
theorem new (h : Os M w a c o) : AdK M w (((w.alloc (obO o a c)).alloc zeOb).alloc (obO o a c)) a c o a c o.traces := by
  have k1 := o2_new (o := o) (a := a) (c := c) w
  have k2 := heap_alloc_new (w.alloc (obO o a c)) zeOb
  have k3 := heap_alloc_new ((w.alloc (obO o a c)).alloc zeOb) (obO o a c)
  have e : ∀ (v : World) (ob : Obj), Below v.heap.size v (v.alloc ob) := fun v ob => (Below.refl _ _).alloc (Nat.le_refl _) ob
  have b1 := e w (obO o a c)
  have b2 := e (w.alloc (obO o a c)) zeOb
  have b3 := e ((w.alloc (obO o a c)).alloc zeOb) (obO o a c)
  have hB := b1.trans ((b2.mono (by simp)).trans (b3.mono (by simp; omega)))
  refine ⟨(k1.below b2 (by simp)).below b3 (by simp; omega), ?_, ?_, (h.traces.ext (Ext.sub_only (M' := AdM M w) fun k hk hm => ?_)).below hB, hB, by simp⟩
  · have := (b3.block _ (by simp)).trans k2
    simpa using this
  · simpa using k3
  · rcases hm with hm | hm
    · exact hm.1
    · omega
end AdK
section
variable {M M' : Nat → Prop} {w : World} {a b : Option Addr} {c d : Nat} {o : Ob} {l : List Tr}
set_option maxRecDepth 100000 in
set_option maxHeartbeats 8000000 in
theorem allR_any (ho : Os M w a c o) (h1 : Sl M' w b d l) (hok : Hid (∀ k t, l[k]? = some t → (o.foldA (l.take k)).traces.length ≤ 10000 ∧ (o.foldA (l.take k)).lens ∧ (o.foldA (l.take k)).addE t = 0)) (hin : Hid (∀ k, (o.foldA (l.take k)).inputs = o.inputs)) :
    Calls Try.prog 52 #[obV o a c, .slice b l.length d] w fun e w' => ∃ (a' : Option Addr) (c' : Nat) (L : List Tr), e = .returned (.tuple #[.agg #[.int .i64 o.inputs, .slice a' L.length c'], .int .i64 0]) ∧ Hid (L = (o.foldA l).traces) ∧
      Sl (fun k => M k ∧ k < w.heap.size) w' a' c' L ∧ Below w.heap.size w w' := by
  have hll := h1.le
  have hol := ho.traces.le
  have hA0 := AdK.new ho
  have HO := Lib.hid ho
  have HW := Lib.hid h1
  have hx0 := hA0.x
  have HA0 := Lib.hid hA0
  clear ho h1 hA0
  go_enter Try.func52, Try.ntmps52
  go_wp2
  have hA0 := HA0.out
  clear HA0 hx0
  generalize ((w.alloc (obO o a c)).alloc zeOb).alloc (obO o a c) = w0 at *
  go_loopw [7] (fun i wr => ∃ (k : Nat) (aL : Option Addr) (cL : Nat) (lL : List Tr), k ≤ l.length ∧ i = .int .i64 k ∧ Hid (lL = (o.foldA (l.take k)).traces) ∧ AdK M w wr a c o aL cL lL) (fun i _ => l.length - (intOf i).toNat)
  case atStart => exact ⟨0, a, c, o.traces, by omega, rfl, rfl, hA0⟩
  case round =>
    clear hA0
    obtain ⟨k, aL, cL, lL, hk, rfl, hF, hA⟩ := hrel
    obtain ⟨w1, rfl⟩ : ∃ w1 : World, w1 = wr := ⟨_, rfl⟩
    by_cases hlt : k < l.length
    · obtain ⟨b1, o1, a1, c1, a2, c2, t, rfl, hc1, hc2, hX, hs1, hs2⟩ := HW.out.at_tr hlt
      have hO : Hid ((⟨o.inputs, lL⟩ : Ob) = o.foldA (l.take k)) := by unfold Hid; rw [hF.out, ← hin.out k]
      have hOK : Hid ((⟨o.inputs, lL⟩ : Ob).traces.length ≤ 10000 ∧ Hid (⟨o.inputs, lL⟩ : Ob).lens ∧ (⟨o.inputs, lL⟩ : Ob).addE t = 0) := by
        unfold Hid; rw [hO.out]; exact hok.out k t hX.out
      have HK : Hid (∀ w', Below w.heap.size w w' → w'.cell? ⟨b1, o1 + k * 2, none⟩ = some (.slice a1 t.inn.length c1) ∧ w'.cell? ⟨b1, o1 + k * 2 + 1, none⟩ = some (.slice a2 t.out.length c2)) := fun w' hb' =>
        ⟨(hb'.cell (p := ⟨b1, o1 + k * 2, none⟩) (lt_of_cell hc1)).trans hc1, (hb'.cell (p := ⟨b1, o1 + k * 2 + 1, none⟩) (lt_of_cell hc2)).trans hc2⟩
      have hlL := hA.s.le
      clear hc1 hc2
      go_wp2
      refine wp_region_T (fun w' => (w'.cell? ⟨w.heap.size + 2, 0, none⟩ = some (.int .i64 o.inputs) ∧ w'.cell? ⟨w.heap.size + 2, 1, none⟩ = some (.slice aL lL.length cL)) ∧ w'.cell? ⟨b1, o1 + k * 2, none⟩ = some (.slice a1 t.inn.length c1) ∧ w'.cell? ⟨b1, o1 + k * 2 + 1, none⟩ = some (.slice a2 t.out.length c2)) [0, 1, 2, 3, 4, 6, 7, 8, 11] (by kernel_rfl) ?_
      have hAd := hA.later (Below.refl w1.heap.size w1).drew
      clear hA
      have hA := hAd
      have hSS := And.intro hA.cells (HK.out _ hA.B)
      clear hAd
      generalize w1.drew = w2 at *
      refine wpAnyT_take (i := 0) (v := ?v158) rfl (by kernel_rfl) (by kernel_rfl) (by kernel_rfl) (by kernel_rfl) (by kernel_rfl) (fun _ _ _ h => h) (Or.inl ⟨by rfl, ?y158⟩) (by assumption) ?r158
      case y158 => (intro w' hSw; (try dsimp only at hSw); go_simp; try with_reducible rfl)
      try simp only [Act.put, List.setIfInBounds_toArray, List.set_cons_zero, List.set_cons_succ]
      refine wpAnyT_take (i := 1) (v := ?v159) rfl (by kernel_rfl) (by kernel_rfl) (by kernel_rfl) (by kernel_rfl) (by kernel_rfl) (fun _ _ _ h => h) (Or.inl ⟨by rfl, ?y159⟩) (by assumption) ?r159
      case y159 => (intro w' hSw; (try dsimp only at hSw); go_simp; try with_reducible rfl)
      try simp only [Act.put, List.setIfInBounds_toArray, List.set_cons_zero, List.set_cons_succ]
      refine wpAnyT_take (i := 2) (v := ?v160) rfl (by kernel_rfl) (by kernel_rfl) (by kernel_rfl) (by kernel_rfl) (by kernel_rfl) (fun _ _ _ h => h) (Or.inl ⟨by rfl, ?y160⟩) (by assumption) ?r160
      case y160 => (intro w' hSw; (try dsimp only at hSw); go_simp; try with_reducible rfl)
      try simp only [Act.put, List.setIfInBounds_toArray, List.set_cons_zero, List.set_cons_succ]
      refine wpAnyT_take (i := 3) (v := ?v161) rfl (by kernel_rfl) (by kernel_rfl) (by kernel_rfl) (by kernel_rfl) (by kernel_rfl) (fun _ _ _ h => h) (Or.inl ⟨by rfl, ?y161⟩) (by assumption) ?r161
      case y161 => (intro w' hSw; (try dsimp only at hSw); go_simp; try with_reducible rfl)
      try simp only [Act.put, List.setIfInBounds_toArray, List.set_cons_zero, List.set_cons_succ]
      refine wpAnyT_take (i := 4) (v := ?v162) rfl (by kernel_rfl) (by kernel_rfl) (by kernel_rfl) (by kernel_rfl) (by kernel_rfl) (fun _ _ _ h => h) (Or.inl ⟨by rfl, ?y162⟩) (by assumption) ?r162
      case y162 => (intro w' hSw; (try dsimp only at hSw); go_simp; try with_reducible rfl)
      try simp only [Act.put, List.setIfInBounds_toArray, List.set_cons_zero, List.set_cons_succ]
      refine wpAnyT_2 (i := 5) (j := 9) (by kernel_rfl) rfl rfl rfl rfl (fun K hK => ?_) (fun K hK => ?_)
      · skip
        go_simp
        have hzu := hA.z
        refine (addAR_any (o := ⟨o.inputs, lL⟩) (M := fun k => AdM M w k) ⟨HO.out.inputs, hA.s⟩ (hs1.below hA.B) (hs2.below hA.B) hOK.out.1 hOK.out.2.1).mono ?_
        rintro e w3 ⟨a3, c3, l3, rfl, hl3, hs3, hb⟩
        have he := Lib.hid hOK.out.2.2
        rw [hOK.out.2.2]
        have hA := hA.later hb
        have hSS := And.intro hA.cells (HK.out _ hA.B)
        have hzA := hA.z
        refine hK _ _ (fun _ => hSS) ?_
        clear hK K
        refine wpAnyT_take (i := 6) (v := ?v163) rfl (by kernel_rfl) (by kernel_rfl) (by kernel_rfl) (by kernel_rfl) (by kernel_rfl) (fun _ _ _ h => h) (Or.inl ⟨by rfl, ?y163⟩) (by assumption) ?r163
        case y163 => (intro w' hSw; (try dsimp only at hSw); go_simp; try with_reducible rfl)
        try simp only [Act.put, List.setIfInBounds_toArray, List.set_cons_zero, List.set_cons_succ]
        refine wpAnyT_take (i := 7) (v := ?v164) rfl (by kernel_rfl) (by kernel_rfl) (by kernel_rfl) (by kernel_rfl) (by kernel_rfl) (fun _ _ _ h => h) (Or.inl ⟨by rfl, ?y164⟩) (by assumption) ?r164
        case y164 => (intro w' hSw; (try dsimp only at hSw); go_simp; try with_reducible rfl)
        try simp only [Act.put, List.setIfInBounds_toArray, List.set_cons_zero, List.set_cons_succ]
        refine wpAnyT_take (i := 8) (v := ?v165) rfl (by kernel_rfl) (by kernel_rfl) (by kernel_rfl) (by kernel_rfl) (by kernel_rfl) (fun _ _ _ h => h) (Or.inl ⟨by rfl, ?y165⟩) (by assumption) ?r165
        case y165 => (intro w' hSw; (try dsimp only at hSw); go_simp; try with_reducible rfl)
        try simp only [Act.put, List.setIfInBounds_toArray, List.set_cons_zero, List.set_cons_succ]
        refine wpAnyT_one (i := 9) (by kernel_rfl) rfl rfl (fun K hK => ?_)
        go_simp
        have hba := (Below.refl w3.heap.size w3).alloc (Nat.le_refl _) zeOb
        have HG := Lib.hid (heap_alloc_new w3 zeOb)
        have hgl : w3.heap.size < (w3.alloc zeOb).heap.size := by simp
        have hgz : w.heap.size + 3 ≤ w3.heap.size := hA.z
        have HL := Lib.hid ((hs3.ext (Ext.sub_only (M' := fun k => AdM M w k ∨ k = w3.heap.size) fun k hk hm => ⟨(hm.resolve_right (by omega)), by rcases hm.resolve_right (by omega) with h | h <;> omega⟩)).below hba)
        have hA := hA.later hba
        have hSS := And.intro hA.cells (HK.out _ hA.B)
        refine hK _ _ (fun _ => hSS) ?_
        clear hK K hba
        generalize hgg : w3.alloc zeOb = w4 at *
        clear hgg
        generalize w3.heap.size = g at *
        try simp only [Act.put, List.setIfInBounds_toArray, List.set_cons_zero, List.set_cons_succ]
        refine wpAnyT_one (i := 10) (by kernel_rfl) rfl rfl (fun K hK => ?_)
        obtain ⟨⟨k0, k1⟩, kf⟩ := cells2 HG.out
        have kf0 := kf 0
        have kf1 := kf 1
        go_simp
        have hbs := bel_st2 (Below.refl g w4) (g := g) (y0 := .int .i64 o.inputs) (y1 := .slice a3 l3.length c3) (Nat.le_refl _)
        have HGn := Lib.hid (set2 (y0 := .int .i64 o.inputs) (y1 := .slice a3 l3.length c3) HG.out)
        have hvn := Lib.hid ((hbs.block (w.heap.size + 2) (by omega)).trans hA.v)
        have hws := hA.B.size
        have hBv := hA.B.trans (hbs.mono (by omega))
        have hSS := And.intro (cells2 hvn.out).1 (HK.out _ hBv)
        have hE := Lib.hid (hA.next (a3 := a3) (c3 := c3) (l3 := l3) (g := g) (by omega) HL.out)
        dsimp only [st2] at HGn hvn hSS hE
        refine hK _ _ (fun _ => hSS) ?_
        clear hK K k0 k1 kf kf0 kf1 hbs HG hBv HL
        generalize hgg : ((w4.setCell ⟨g, 0, none⟩ (.int .i64 o.inputs)).setCell ⟨g, 1, none⟩ (.slice a3 l3.length c3)) = v5 at *
        clear hgg
        refine wpAnyT_take (i := 11) (v := ?v166) rfl (by kernel_rfl) (by kernel_rfl) (by kernel_rfl) (by kernel_rfl) (by kernel_rfl) (fun _ _ _ h => h) (Or.inl ⟨by rfl, ?y166⟩) (by assumption) ?r166
        case y166 => (intro w' hSw; (try dsimp only at hSw); go_simp; try with_reducible rfl)
        try simp only [Act.put, List.setIfInBounds_toArray, List.set_cons_zero, List.set_cons_succ]
        refine wpAnyT_done (by kernel_rfl) ?_ _
        have hFin : Hid (l3 = (o.foldA (l.take (k + 1))).traces) := by unfold Hid; rw [Ob.foldA_succ hX.out, ← hO.out, hl3.out]
        obtain ⟨⟨k0, k1⟩, -⟩ := cells2 HGn.out
        obtain ⟨⟨m0, m1⟩, mf⟩ := cells2 hvn.out
        have mf0 := mf 0
        have mf1 := mf 1
        clear hl3 hF hA
        go_wp2
        simp only [show w.heap.size + 1 + 1 = w.heap.size + 2 from rfl]
        generalize hgg : ((v5.setCell ⟨w.heap.size + 2, 0, none⟩ (.int .i64 o.inputs)).setCell ⟨w.heap.size + 2, 1, none⟩ (.slice a3 l3.length c3)) = v6 at *
        clear hgg
        go_roundw
        case rel => exact ⟨k + 1, a3, c3, l3, by omega, by go_num, hFin, hE.out⟩
        case measure => simp [intOf]; omega
      · skip
        go_simp
        have hba := (Below.refl w2.heap.size w2).alloc (Nat.le_refl _) zeOb
        have HG := Lib.hid (heap_alloc_new w2 zeOb)
        have hgl : w2.heap.size < (w2.alloc zeOb).heap.size := by simp
        have hgz : w.heap.size + 3 ≤ w2.heap.size := hA.z
        have HL := Lib.hid ((hA.s.ext (Ext.sub_only (M' := fun k => AdM M w k ∨ k = w2.heap.size) fun k hk hm => hm.resolve_right (by omega))).below hba)
        have hA := hA.later hba
        have hSS := And.intro hA.cells (HK.out _ hA.B)
        refine hK _ _ (fun _ => hSS) ?_
        clear hK K hba
        generalize hgg : w2.alloc zeOb = w3 at *
        clear hgg
        generalize w2.heap.size = g at *
        try simp only [Act.put, List.setIfInBounds_toArray, List.set_cons_zero, List.set_cons_succ]
        refine wpAnyT_one (i := 5) (by kernel_rfl) rfl rfl (fun K hK => ?_)
        go_simp
        have hzu := hA.z
        refine (addAR_any (o := ⟨o.inputs, lL⟩) (M := fun k => AdM M w k ∨ k = g) ⟨HO.out.inputs, HL.out⟩ (hs1.below hA.B) (hs2.below hA.B) hOK.out.1 hOK.out.2.1).mono ?_
        rintro e w4 ⟨a3, c3, l3, rfl, hl3, hs3, hb⟩
        have he := Lib.hid hOK.out.2.2
        rw [hOK.out.2.2]
        have hA := hA.later hb
        have HL := Lib.hid (hs3.anti (M' := fun k => AdM M w k ∨ k = g) fun k _ hk => ⟨hk, by rcases hk with (h | h) | h <;> omega⟩)
        have HG := Lib.hid ((hb.block g hgl).trans HG.out)
        have hgl : g < w4.heap.size := Nat.lt_of_lt_of_le hgl hb.size
        have hSS := And.intro hA.cells (HK.out _ hA.B)
        have hzA := hA.z
        refine hK _ _ (fun _ => hSS) ?_
        clear hK K
        refine wpAnyT_take (i := 6) (v := ?v167) rfl (by kernel_rfl) (by kernel_rfl) (by kernel_rfl) (by kernel_rfl) (by kernel_rfl) (fun _ _ _ h => h) (Or.inl ⟨by rfl, ?y167⟩) (by assumption) ?r167
        case y167 => (intro w' hSw; (try dsimp only at hSw); go_simp; try with_reducible rfl)
        try simp only [Act.put, List.setIfInBounds_toArray, List.set_cons_zero, List.set_cons_succ]
        refine wpAnyT_take (i := 7) (v := ?v168) rfl (by kernel_rfl) (by kernel_rfl) (by kernel_rfl) (by kernel_rfl) (by kernel_rfl) (fun _ _ _ h => h) (Or.inl ⟨by rfl, ?y168⟩) (by assumption) ?r168
        case y168 => (intro w' hSw; (try dsimp only at hSw); go_simp; try with_reducible rfl)
        try simp only [Act.put, List.setIfInBounds_toArray, List.set_cons_zero, List.set_cons_succ]
        refine wpAnyT_take (i := 8) (v := ?v169) rfl (by kernel_rfl) (by kernel_rfl) (by kernel_rfl) (by kernel_rfl) (by kernel_rfl) (fun _ _ _ h => h) (Or.inl ⟨by rfl, ?y169⟩) (by assumption) ?r169
        case y169 => (intro w' hSw; (try dsimp only at hSw); go_simp; try with_reducible rfl)
        try simp only [Act.put, List.setIfInBounds_toArray, List.set_cons_zero, List.set_cons_succ]
        refine wpAnyT_one (i := 10) (by kernel_rfl) rfl rfl (fun K hK => ?_)
        obtain ⟨⟨k0, k1⟩, kf⟩ := cells2 HG.out
        have kf0 := kf 0
        have kf1 := kf 1
        go_simp
        have hbs := bel_st2 (Below.refl g w4) (g := g) (y0 := .int .i64 o.inputs) (y1 := .slice a3 l3.length c3) (Nat.le_refl _)
        have HGn := Lib.hid (set2 (y0 := .int .i64 o.inputs) (y1 := .slice a3 l3.length c3) HG.out)
        have hvn := Lib.hid ((hbs.block (w.heap.size + 2) (by omega)).trans hA.v)
        have hws := hA.B.size
        have hBv := hA.B.trans (hbs.mono (by omega))
        have hSS := And.intro (cells2 hvn.out).1 (HK.out _ hBv)
        have hE := Lib.hid (hA.next (a3 := a3) (c3 := c3) (l3 := l3) (g := g) (by omega) HL.out)
        dsimp only [st2] at HGn hvn hSS hE
        refine hK _ _ (fun _ => hSS) ?_
        clear hK K k0 k1 kf kf0 kf1 hbs HG hBv HL
        generalize hgg : ((w4.setCell ⟨g, 0, none⟩ (.int .i64 o.inputs)).setCell ⟨g, 1, none⟩ (.slice a3 l3.length c3)) = v5 at *
        clear hgg
        refine wpAnyT_take (i := 11) (v := ?v170) rfl (by kernel_rfl) (by kernel_rfl) (by kernel_rfl) (by kernel_rfl) (by kernel_rfl) (fun _ _ _ h => h) (Or.inl ⟨by rfl, ?y170⟩) (by assumption) ?r170
        case y170 => (intro w' hSw; (try dsimp only at hSw); go_simp; try with_reducible rfl)
        try simp only [Act.put, List.setIfInBounds_toArray, List.set_cons_zero, List.set_cons_succ]
        refine wpAnyT_done (by kernel_rfl) ?_ _
        have hFin : Hid (l3 = (o.foldA (l.take (k + 1))).traces) := by unfold Hid; rw [Ob.foldA_succ hX.out, ← hO.out, hl3.out]
        obtain ⟨⟨k0, k1⟩, -⟩ := cells2 HGn.out
        obtain ⟨⟨m0, m1⟩, mf⟩ := cells2 hvn.out
        have mf0 := mf 0
        have mf1 := mf 1
        clear hl3 hF hA
        go_wp2
        simp only [show w.heap.size + 1 + 1 = w.heap.size + 2 from rfl]
        generalize hgg : ((v5.setCell ⟨w.heap.size + 2, 0, none⟩ (.int .i64 o.inputs)).setCell ⟨w.heap.size + 2, 1, none⟩ (.slice a3 l3.length c3)) = v6 at *
        clear hgg
        go_roundw
        case rel => exact ⟨k + 1, a3, c3, l3, by omega, by go_num, hFin, hE.out⟩
        case measure => simp [intOf]; omega
    · skip
      have hF2 : Hid (lL = (o.foldA l).traces) := by unfold Hid; rw [hF.out, List.take_of_length_le (by omega)]
      obtain ⟨⟨m0, m1⟩, -⟩ := cells2 hA.v
      obtain ⟨⟨r0, r1⟩, rf⟩ := cells2 hA.r
      have rf0 := rf 0
      have rf1 := rf 1
      have hzz := hA.z
      have hm : AdM M w (w.heap.size + 1) := .inr ⟨by omega, by omega⟩
      have HR := Lib.hid (set2 (y0 := .int .i64 o.inputs) (y1 := .slice aL lL.length cL) hA.r)
      have HBn := Lib.hid (bel_st2 hA.B (g := w.heap.size + 1) (y0 := .int .i64 o.inputs) (y1 := .slice aL lL.length cL) (by omega))
      have HSn := Lib.hid ((hA.s.ext ((Ext.setCell w1 (p := ⟨w.heap.size + 1, 0, none⟩) hm (.int .i64 o.inputs)).trans (Ext.setCell _ (p := ⟨w.heap.size + 1, 1, none⟩) hm (.slice aL lL.length cL)))).anti (M' := fun k => M k ∧ k < w.heap.size) fun k _ hk => .inl hk)
      obtain ⟨⟨q0, q1⟩, -⟩ := cells2 HR.out
      dsimp only [st2] at q0 q1 HR HBn HSn
      clear hm hF
      go_wp2
      generalize hgg : (w1.setCell ⟨w.heap.size + 1, 0, none⟩ (.int .i64 o.inputs)).setCell ⟨w.heap.size + 1, 1, none⟩ (.slice aL lL.length cL) = wz at *
      clear hgg
      exact bodyPost_ret (v := .tuple #[.agg #[.int .i64 o.inputs, .slice aL lL.length cL], .int .i64 0]) (by simp [results, Try.results52, go_sem, q0, q1]) rfl ⟨aL, cL, lL, rfl, hF2, HSn.out, HBn.out⟩
end
end Go.Proofs.Ytlgdijgfphedpaa
/- The reference's From, Run and Traces. Condition where named: words of fewer than 10^9 symbols. -/
namespace Go.Proofs.Ytlgdijgfphedpaa
open Go.RowKit
section
variable {M M' : Nat → Prop} {w : World} {an ao a : Option Addr} {cn co c : Nat} {m : Mach}
set_option maxRecDepth 100000 in
set_option maxHeartbeats 4000000 in
theorem fromR_any {l : List Int} (hm : Ma M w an cn ao co m) (hw : Sl M' w a c l) (s : Int) :
    Calls Try.prog 53 #[maV m an cn ao co, .int .i64 s, .slice a l.length c] w fun e w' => ∃ (a' : Option Addr) (c' : Nat) (l' : List Int), e = .returned (.tuple #[.slice a' l'.length c', .int .i64 (m.frEnd s l), .int .i64 (m.frErr s l)]) ∧ Hid (l' = m.frOut s l) ∧
      Sl (fun k => k < w.heap.size) w' a' c' l' ∧ Below w.heap.size w w' := by
  have hll := hw.le
  have hle := hm.next.le
  have HM := Lib.hid hm
  have HW := Lib.hid hw
  have hx0 := c4_new (m := m) (an := an) (cn := cn) (ao := ao) (co := co) w
  have hB0 := (Below.refl w.heap.size w).alloc (Nat.le_refl _) (maO m an cn ao co)
  have hz0 : w.heap.size + 1 ≤ (w.alloc (maO m an cn ao co)).heap.size := by simp
  have HC := Lib.hid (valid6_any (HM.out.below hB0))
  clear hm hw
  by_cases he : m.err = 0
  · have heb : (m.err != 0) = false := by simp [he]
    by_cases hs : s < 0
    · have hd : decide (s < 0) = true := by simp [hs]
      have hst : m.stErr s = 2 := by unfold Mach.stErr; rw [if_neg (by simp [he]), if_pos (.inl hs)]
      have HF := Mach.frErr_st (w := l) (by rw [hst]; decide)
      rw [hst] at HF
      have HF := Lib.hid HF
      clear he hst
      go_enter Try.func53, Try.ntmps53
      go_wp2_with fail
      refine (HC.out).mono ?_
      rintro e w1 ⟨rfl, hb1⟩
      have hB1 := hB0.trans (hb1.mono (by simp))
      go_wp2
      go_ret3
      exact ⟨none, 0, [], ret_fr rfl HF.out.2.2.symm HF.out.1.symm, HF.out.2.1.symm, Sl.nil _ _ _ (by unfold maxLen; omega), hB1⟩
    · have hd : decide (s < 0) = false := by simp; omega
      by_cases hs2 : (m.next.length : Int) ≤ s
      · have hst : m.stErr s = 2 := by unfold Mach.stErr; rw [if_neg (by simp [he]), if_pos (.inr hs2)]
        have HF := Mach.frErr_st (w := l) (by rw [hst]; decide)
        rw [hst] at HF
        have HF := Lib.hid HF
        clear he hst
        go_enter Try.func53, Try.ntmps53
        go_wp2_with fail
        refine (HC.out).mono ?_
        rintro e w1 ⟨rfl, hb1⟩
        have hB1 := hB0.trans (hb1.mono (by simp))
        have hx1 := hx0.below hb1 (by simp)
        go_wp2
        go_ret3
        exact ⟨none, 0, [], ret_fr rfl HF.out.2.2.symm HF.out.1.symm, HF.out.2.1.symm, Sl.nil _ _ _ (by unfold maxLen; omega), hB1⟩
      · have hst : m.stErr s = 0 := by unfold Mach.stErr; rw [if_neg (by simp [he]), if_neg (by omega)]
        have hs3 : s < (m.next.length : Int) := by omega
        have OK := Lib.hid (m.ok_of_err he)
        have HST := Lib.hid hst
        by_cases hw : wErr l m.inputs = 0
        · have hwb : (wErr l m.inputs != 0) = false := by simp [hw]
          have HF := Lib.hid (Mach.frErr_0 hst hw)
          have HKW := Lib.hid (Mach.okS_of hw)
          have hlw := (Mach.okS_of hw).2
          clear he hst hw
          go_enter Try.func53, Try.ntmps53
          go_wp2_with fail
          refine (HC.out).mono ?_
          rintro e w1 ⟨rfl, hb1⟩
          have hB1 := hB0.trans (hb1.mono (by simp))
          have hx1 := hx0.below hb1 (by simp)
          have hz1 : w.heap.size + 1 ≤ w1.heap.size := by have := hb1.size; omega
          have HC := Lib.hid (checkR1_any (HW.out.below hB1) m.inputs)
          clear hx0 hB0 hb1 hz0
          go_wp2_with fail
          refine (HC.out).mono ?_
          rintro e w2 ⟨rfl, hw2⟩
          obtain rfl : w1 = w2 := hw2.symm
          have HC := Lib.hid (outsR_any (HM.out.below hB1) (HW.out.below hB1) OK (Lib.hid ⟨by omega, by omega⟩) (Lib.hid HKW.out.1) (by omega) (s := s))
          go_wp2_with fail
          refine (HC.out).mono ?_
          rintro e w3 ⟨a3, c3, l3, rfl, hl3, hs3, hb3⟩
          have hB3 := hB1.trans (hb3.mono (by omega))
          have hs4 := hs3.anti (M' := fun k => k < w.heap.size) (fun k _ hk => by omega)
          have hl4 : Hid (l3 = m.frOut s l) := by unfold Hid; rw [hl3.out, HF.out.2.1]
          clear hl3 hs3 hb3 hB1 hx1
          go_wp2
          go_ret3
          exact ⟨a3, c3, l3, ret_fr rfl HF.out.2.2.symm HF.out.1.symm, hl4, hs4, hB3⟩
        · have hwb : (wErr l m.inputs != 0) = true := by simp [hw]
          have HF := Lib.hid (Mach.frErr_w hst hw)
          clear he hst hw
          go_enter Try.func53, Try.ntmps53
          go_wp2_with fail
          refine (HC.out).mono ?_
          rintro e w1 ⟨rfl, hb1⟩
          have hB1 := hB0.trans (hb1.mono (by simp))
          have hx1 := hx0.below hb1 (by simp)
          have hz1 : w.heap.size + 1 ≤ w1.heap.size := by have := hb1.size; omega
          have HC := Lib.hid (checkR1_any (HW.out.below hB1) m.inputs)
          clear hx0 hB0 hb1 hz0
          go_wp2_with fail
          refine (HC.out).mono ?_
          rintro e w2 ⟨rfl, hw2⟩
          obtain rfl : w1 = w2 := hw2.symm
          go_wp2
          go_ret3
          exact ⟨none, 0, [], ret_fr rfl HF.out.2.2.symm HF.out.1.symm, HF.out.2.1.symm, Sl.nil _ _ _ (by unfold maxLen; omega), hB1⟩
  · have heb : (m.err != 0) = true := by simp [he]
    have hst : m.stErr s = m.err := by unfold Mach.stErr; rw [if_pos he]
    have HF := Mach.frErr_st (w := l) (s := s) (m := m) (by rw [hst]; exact he)
    rw [hst] at HF
    have HF := Lib.hid HF
    clear he hst
    go_enter Try.func53, Try.ntmps53
    go_wp2_with fail
    refine (HC.out).mono ?_
    rintro e w1 ⟨rfl, hb1⟩
    have hB1 := hB0.trans (hb1.mono (by simp))
    go_wp2
    go_ret3
    exact ⟨none, 0, [], ret_fr rfl HF.out.2.2.symm HF.out.1.symm, HF.out.2.1.symm, Sl.nil _ _ _ (by unfold maxLen; omega), hB1⟩

set_option maxHeartbeats 1000000 in
theorem runR_any {l : List Int} (hm : Ma M w an cn ao co m) (hw : Sl M' w a c l) :
    Calls Try.prog 25 #[maV m an cn ao co, .slice a l.length c] w fun e w' => ∃ (a' : Option Addr) (c' : Nat) (l' : List Int), e = .returned (.tuple #[.slice a' l'.length c', .int .i64 (m.frErr m.start l)]) ∧ Hid (l' = m.frOut m.start l) ∧
      Sl (fun k => k < w.heap.size) w' a' c' l' ∧ Below w.heap.size w w' := by
  have HC := Lib.hid (fromR_any (hm.ext (Ext.alloc M w (maO m an cn ao co))) (hw.alloc (maO m an cn ao co)) m.start)
  have hB0 := (Below.refl w.heap.size w).alloc (Nat.le_refl _) (maO m an cn ao co)
  clear hm hw
  go_enter Try.func25, Try.ntmps25
  go_wp2_with fail
  refine (HC.out).mono ?_
  rintro e w1 ⟨a1, c1, l1, rfl, hl1, hs1, hb1⟩
  have hB1 := hB0.trans (hb1.mono (by simp))
  have hs2 := hs1.anti (M' := fun k => k < w.heap.size) (fun k _ hk => by simp; omega)
  clear hs1 hb1 hB0
  go_wp2
  go_ret2
  exact ⟨a1, c1, l1, ret_ru rfl, hl1, hs2, hB1⟩
end
end Go.Proofs.Ytlgdijgfphedpaa
/- The reference's Traces. Condition: a valid machine, at most 10000 words, all valid. -/
namespace Go.Proofs.Ytlgdijgfphedpaa
open Go.RowKit
/-- A word's trace. -/
def Mach.trW (m : Mach) (l : List Int) : Tr := ⟨l, m.outsW m.start l⟩
section
variable {M M' : Nat → Prop} {w : World} {an ao a : Option Addr} {cn co c : Nat} {m : Mach} {rows : List (List Int)}
theorem map_snoc {k : Nat} {r : List Int} {f : List Int → Tr} (h : rows[k]? = some r) : (rows.take (k + 1)).map f = (rows.take k).map f ++ [f r] := by
  rw [List.take_add_one, h]; simp
set_option maxRecDepth 100000 in
set_option maxHeartbeats 8000000 in
theorem tracesR_any (hm : Ma M w an cn ao co m) (hw : Sl M' w a c rows) (he : Hid (m.err = 0)) (hr : Hid (∀ l ∈ rows, wErr l m.inputs = 0 ∧ m.okS l)) (hst : Hid (0 ≤ m.start ∧ m.start < m.next.length)) (hn : rows.length ≤ 10000) :
    Calls Try.prog 51 #[maV m an cn ao co, .slice a rows.length c] w fun e w' => ∃ (a' : Option Addr) (c' : Nat) (L : List Tr), e = .returned (.tuple #[.slice a' L.length c', .int .i64 0]) ∧ Hid (L = rows.map m.trW) ∧
      Sl (fun k => k < w.heap.size) w' a' c' L ∧ Below w.heap.size w w' := by
  have hll := hw.le
  have HM := Lib.hid hm
  have HW := Lib.hid hw
  have hx0 := c4_new (m := m) (an := an) (cn := cn) (ao := ao) (co := co) w
  have hB0 := (Below.refl w.heap.size w).alloc (Nat.le_refl _) (maO m an cn ao co)
  have hz0 : w.heap.size + 1 ≤ (w.alloc (maO m an cn ao co)).heap.size := by simp
  have HC := Lib.hid (valid6_any (HM.out.below hB0))
  have hlim : decide ((10000 : Int) < ((rows.length : Nat) : Int)) = false := by simp; omega
  clear hm hw
  rw [he.out] at HC
  go_enter Try.func51, Try.ntmps51
  go_wp2_with fail
  generalize w.alloc (maO m an cn ao co) = w0 at *
  refine (HC.out).mono ?_
  rintro e w1 ⟨rfl, hb1⟩
  have hB1 := hB0.trans (hb1.mono (by omega))
  have hx1 := hx0.below hb1 (by omega)
  have hz1 : w.heap.size + 1 ≤ w1.heap.size := by have := hb1.size; omega
  clear hx0 hB0 hb1 hz0 HC
  go_wp2
  go_loopw [7, 8] (fun v i wr => ∃ (k : Nat) (a' : Option Addr) (c' : Nat) (L : List Tr), k ≤ rows.length ∧ i = .int .i64 k ∧ v = .slice a' L.length c' ∧ Hid (L = (rows.take k).map m.trW) ∧
    Qt (w.heap.size + 1) (w.heap.size + 1) wr 61 (.slice a' L.length c') L ∧ C4 wr w.heap.size an cn ao co m ∧ Below w.heap.size w wr ∧ w.heap.size + 1 ≤ wr.heap.size) (fun _ i _ => rows.length - (intOf i).toNat)
  case atStart => exact ⟨0, none, 0, [], by omega, rfl, rfl, rfl, Ow.nil, hx1, hB1, hz1⟩
  case round =>
    clear hx1 hB1 hz1
    obtain ⟨k, a3, c3, L, hk, rfl, rfl, hL, hQ, hx, hB, hz⟩ := hrel
    obtain ⟨w2, rfl⟩ : ∃ w2 : World, w2 = wr := ⟨_, rfl⟩
    by_cases hlt : k < rows.length
    · obtain ⟨b1, o1, a1, r, c1, rfl, hc1, hX, hs1⟩ := HW.out.at_row hlt
      have hrr := Lib.hid (hr.out r (List.mem_of_getElem? hX.out))
      have hrl := wErr_len hrr.out.1
      have HR := Lib.hid hs1
      have HK : Hid (∀ w', Below w.heap.size w w' → w'.cell? ⟨b1, o1 + k, none⟩ = some (.slice a1 r.length c1)) := fun w' hb' => (hb'.cell (p := ⟨b1, o1 + k, none⟩) (lt_of_cell hc1)).trans hc1
      have hbd := (Below.refl w2.heap.size w2).drew
      have hxd := hx.below hbd (by omega)
      have hQd := hQ.later hbd
      have hBd := hB.drew
      have hzd : w.heap.size + 1 ≤ w2.drew.heap.size := hz
      have hSS := And.intro hxd (HK.out _ hBd)
      have HC := checkR1_any (HR.out.below hBd) m.inputs
      rw [hrr.out.1] at HC
      have HC := Lib.hid HC
      have hLk := Lib.hid (show L.length = k by rw [hL.out]; simp; omega)
      have hL1 : L.length ≤ 10000 := by rw [hLk.out]; omega
      clear hc1 hs1 hbd
      go_wp2
      refine wp_region_L (fun w' => C4 w' w.heap.size an cn ao co m ∧ w'.cell? ⟨b1, o1 + k, none⟩ = some (.slice a1 r.length c1)) [0, 1, 2, 3, 4, 5, 7] (by kernel_rfl) ?_
      clear hx hQ hB hz
      generalize w2.drew = w3 at *
      refine wpAnyL_take (i := 0) (v := ?v24) rfl (by kernel_rfl) (by kernel_rfl) (by kernel_rfl) (by kernel_rfl) (fun _ _ _ h => h) (Or.inl ⟨by rfl, ?y24⟩) (by assumption) ?r24
      case y24 => (intro w' hSw; (try dsimp only at hSw); go_simp; try with_reducible rfl)
      try simp only [Act.put, List.setIfInBounds_toArray, List.set_cons_zero, List.set_cons_succ]
      refine wpAnyL_take (i := 1) (v := ?v25) rfl (by kernel_rfl) (by kernel_rfl) (by kernel_rfl) (by kernel_rfl) (fun _ _ _ h => h) (Or.inl ⟨by rfl, ?y25⟩) (by assumption) ?r25
      case y25 => (intro w' hSw; (try dsimp only at hSw); go_simp; try with_reducible rfl)
      try simp only [Act.put, List.setIfInBounds_toArray, List.set_cons_zero, List.set_cons_succ]
      refine wpAnyL_take (i := 2) (v := ?v26) rfl (by kernel_rfl) (by kernel_rfl) (by kernel_rfl) (by kernel_rfl) (fun _ _ _ h => h) (Or.inl ⟨by rfl, ?y26⟩) (by assumption) ?r26
      case y26 => (intro w' hSw; (try dsimp only at hSw); go_simp; try with_reducible rfl)
      try simp only [Act.put, List.setIfInBounds_toArray, List.set_cons_zero, List.set_cons_succ]
      refine wpAnyL_take (i := 3) (v := ?v27) rfl (by kernel_rfl) (by kernel_rfl) (by kernel_rfl) (by kernel_rfl) (fun _ _ _ h => h) (Or.inl ⟨by rfl, ?y27⟩) (by assumption) ?r27
      case y27 => (intro w' hSw; (try dsimp only at hSw); go_simp; try with_reducible rfl)
      try simp only [Act.put, List.setIfInBounds_toArray, List.set_cons_zero, List.set_cons_succ]
      refine wpAnyL_take (i := 4) (v := ?v28) rfl (by kernel_rfl) (by kernel_rfl) (by kernel_rfl) (by kernel_rfl) (fun _ _ _ h => h) (Or.inl ⟨by rfl, ?y28⟩) (by assumption) ?r28
      case y28 => (intro w' hSw; (try dsimp only at hSw); go_simp; try with_reducible rfl)
      try simp only [Act.put, List.setIfInBounds_toArray, List.set_cons_zero, List.set_cons_succ]
      refine wpAnyL_take (i := 5) (v := ?v29) rfl (by kernel_rfl) (by kernel_rfl) (by kernel_rfl) (by kernel_rfl) (fun _ _ _ h => h) (Or.inl ⟨by rfl, ?y29⟩) (by assumption) ?r29
      case y29 => (intro w' hSw; (try dsimp only at hSw); go_simp; try with_reducible rfl)
      try simp only [Act.put, List.setIfInBounds_toArray, List.set_cons_zero, List.set_cons_succ]
      refine wpAnyL_one (i := 6) (by kernel_rfl) rfl rfl (fun K hK => ?_)
      go_simp
      refine (HC.out).mono ?_
      rintro e w4 ⟨rfl, hw4⟩
      obtain rfl : w3 = w4 := hw4.symm
      refine hK _ _ (fun _ => hSS) ?_
      clear hK K HC
      refine wpAnyL_take (i := 7) (v := ?v30) rfl (by kernel_rfl) (by kernel_rfl) (by kernel_rfl) (by kernel_rfl) (fun _ _ _ h => h) (Or.inl ⟨by rfl, ?y30⟩) (by assumption) ?r30
      case y30 => (intro w' hSw; (try dsimp only at hSw); go_simp; try with_reducible rfl)
      try simp only [Act.put, List.setIfInBounds_toArray, List.set_cons_zero, List.set_cons_succ]
      refine wpAnyL_done (by kernel_rfl) ?_ _
      have hbd := (Below.refl w3.heap.size w3).drew
      have hx5 := hxd.below hbd (by omega)
      have hQ5 := hQd.later hbd
      have hB5 := hBd.drew
      have hz5 : w.heap.size + 1 ≤ w3.drew.heap.size := hzd
      have hSS5 := And.intro hx5 (HK.out _ hB5)
      have HC := Lib.hid (outsR_any (HM.out.below hB5) (HR.out.below hB5) (m.ok_of_err he.out) hst hrr.out.2 (by omega))
      clear hbd
      go_wp2
      refine wp_region_L (fun w' => C4 w' w.heap.size an cn ao co m ∧ w'.cell? ⟨b1, o1 + k, none⟩ = some (.slice a1 r.length c1)) [0, 1, 2, 3, 4, 5, 6, 8, 9, 10, 11, 12] (by kernel_rfl) ?_
      clear hxd hQd hBd hzd hSS
      generalize w3.drew = w5 at *
      refine wpAnyL_take (i := 0) (v := ?v31) rfl (by kernel_rfl) (by kernel_rfl) (by kernel_rfl) (by kernel_rfl) (fun _ _ _ h => h) (Or.inl ⟨by rfl, ?y31⟩) (by assumption) ?r31
      case y31 => (intro w' hSw; (try dsimp only at hSw); go_simp; try with_reducible rfl)
      try simp only [Act.put, List.setIfInBounds_toArray, List.set_cons_zero, List.set_cons_succ]
      refine wpAnyL_take (i := 1) (v := ?v32) rfl (by kernel_rfl) (by kernel_rfl) (by kernel_rfl) (by kernel_rfl) (fun _ _ _ h => h) (Or.inl ⟨by rfl, ?y32⟩) (by assumption) ?r32
      case y32 => (intro w' hSw; (try dsimp only at hSw); go_simp; try with_reducible rfl)
      try simp only [Act.put, List.setIfInBounds_toArray, List.set_cons_zero, List.set_cons_succ]
      refine wpAnyL_take (i := 2) (v := ?v33) rfl (by kernel_rfl) (by kernel_rfl) (by kernel_rfl) (by kernel_rfl) (fun _ _ _ h => h) (Or.inl ⟨by rfl, ?y33⟩) (by assumption) ?r33
      case y33 => (intro w' hSw; (try dsimp only at hSw); go_simp; try with_reducible rfl)
      try simp only [Act.put, List.setIfInBounds_toArray, List.set_cons_zero, List.set_cons_succ]
      refine wpAnyL_take (i := 3) (v := ?v34) rfl (by kernel_rfl) (by kernel_rfl) (by kernel_rfl) (by kernel_rfl) (fun _ _ _ h => h) (Or.inl ⟨by rfl, ?y34⟩) (by assumption) ?r34
      case y34 => (intro w' hSw; (try dsimp only at hSw); go_simp; try with_reducible rfl)
      try simp only [Act.put, List.setIfInBounds_toArray, List.set_cons_zero, List.set_cons_succ]
      refine wpAnyL_take (i := 4) (v := ?v35) rfl (by kernel_rfl) (by kernel_rfl) (by kernel_rfl) (by kernel_rfl) (fun _ _ _ h => h) (Or.inl ⟨by rfl, ?y35⟩) (by assumption) ?r35
      case y35 => (intro w' hSw; (try dsimp only at hSw); go_simp; try with_reducible rfl)
      try simp only [Act.put, List.setIfInBounds_toArray, List.set_cons_zero, List.set_cons_succ]
      refine wpAnyL_take (i := 5) (v := ?v36) rfl (by kernel_rfl) (by kernel_rfl) (by kernel_rfl) (by kernel_rfl) (fun _ _ _ h => h) (Or.inl ⟨by rfl, ?y36⟩) (by assumption) ?r36
      case y36 => (intro w' hSw; (try dsimp only at hSw); go_simp; try with_reducible rfl)
      try simp only [Act.put, List.setIfInBounds_toArray, List.set_cons_zero, List.set_cons_succ]
      refine wpAnyL_take (i := 6) (v := ?v37) rfl (by kernel_rfl) (by kernel_rfl) (by kernel_rfl) (by kernel_rfl) (fun _ _ _ h => h) (Or.inl ⟨by rfl, ?y37⟩) (by assumption) ?r37
      case y37 => (intro w' hSw; (try dsimp only at hSw); go_simp; try with_reducible rfl)
      try simp only [Act.put, List.setIfInBounds_toArray, List.set_cons_zero, List.set_cons_succ]
      refine wpAnyL_one (i := 7) (by kernel_rfl) rfl rfl (fun K hK => ?_)
      go_simp
      refine (HC.out).mono ?_
      rintro e w6 ⟨a5, c5, l5, rfl, hl5, hs5, hb6⟩
      have hx6 := hx5.below hb6 (by omega)
      have hQ6 := hQ5.later hb6
      have hB6 := hB5.trans (hb6.mono (by omega))
      have hz6 : w.heap.size + 1 ≤ w6.heap.size := by have := hb6.size; omega
      have hSS6 := And.intro hx6 (HK.out _ hB6)
      have hs6 := hs5.anti (M' := mayT (w.heap.size + 1) (.slice a3 L.length c3)) fun i _ hi => by
        rcases hi with hi | hi
        · exact (hQ5.lt i hi).2
        · omega
      refine hK _ _ (fun _ => hSS6) ?_
      clear hK K HC hs5
      refine wpAnyL_take (i := 8) (v := ?v38) rfl (by kernel_rfl) (by kernel_rfl) (by kernel_rfl) (by kernel_rfl) (fun _ _ _ h => h) (Or.inl ⟨by rfl, ?y38⟩) (by assumption) ?r38
      case y38 => (intro w' hSw; (try dsimp only at hSw); go_simp; try with_reducible rfl)
      try simp only [Act.put, List.setIfInBounds_toArray, List.set_cons_zero, List.set_cons_succ]
      refine wpAnyL_take (i := 9) (v := ?v39) rfl (by kernel_rfl) (by kernel_rfl) (by kernel_rfl) (by kernel_rfl) (fun _ _ _ h => h) (Or.inl ⟨by rfl, ?y39⟩) (by assumption) ?r39
      case y39 => (intro w' hSw; (try dsimp only at hSw); go_simp; try with_reducible rfl)
      try simp only [Act.put, List.setIfInBounds_toArray, List.set_cons_zero, List.set_cons_succ]
      refine wpAnyL_take (i := 10) (v := ?v40) rfl (by kernel_rfl) (by kernel_rfl) (by kernel_rfl) (by kernel_rfl) (fun _ _ _ h => h) (Or.inl ⟨by rfl, ?y40⟩) (by assumption) ?r40
      case y40 => (intro w' hSw; (try dsimp only at hSw); go_simp; try with_reducible rfl)
      try simp only [Act.put, List.setIfInBounds_toArray, List.set_cons_zero, List.set_cons_succ]
      refine wpAnyL_take (i := 11) (v := ?v41) rfl (by kernel_rfl) (by kernel_rfl) (by kernel_rfl) (by kernel_rfl) (fun _ _ _ h => h) (Or.inl ⟨by rfl, ?y41⟩) (by assumption) ?r41
      case y41 => (intro w' hSw; (try dsimp only at hSw); go_simp; try with_reducible rfl)
      try simp only [Act.put, List.setIfInBounds_toArray, List.set_cons_zero, List.set_cons_succ]
      refine wpAnyL_take (i := 12) (v := ?v42) rfl (by kernel_rfl) (by kernel_rfl) (by kernel_rfl) (by kernel_rfl) (fun _ _ _ h => h) (Or.inl ⟨by rfl, ?y42⟩) (by assumption) ?r42
      case y42 => (intro w' hSw; (try dsimp only at hSw); go_simp; try with_reducible rfl)
      try simp only [Act.put, List.setIfInBounds_toArray, List.set_cons_zero, List.set_cons_succ]
      refine wpAnyL_done (by kernel_rfl) ?_ _
      have hcx := hSS6.2
      clear hx5 hQ5 hB5 hz5 hSS5 hSS6 hb6
      go_wp2_with fail
      have hba := (Below.refl w6.heap.size w6).alloc (Nat.le_refl _) (.cells #[.slice a1 r.length c1] 30)
      have hS7 := rows1 (T := 30) (HR.out.below hB6) (n := r.length) rfl
      have hx7 := hx6.below hba (by omega)
      have hQ7 := hQ6.later hba
      have hs7 := hs6.below hba
      have hB7 := hB6.trans (hba.mono (by omega))
      have hz7 : w.heap.size + 1 ≤ (w6.alloc (.cells #[.slice a1 r.length c1] 30)).heap.size := by simp; omega
      refine (joinR_any hS7 (by rw [flat1]; omega)).mono ?_
      rintro e w8 ⟨a8, c8, l8, rfl, hl8, hs8, hb8⟩
      have hx8 := hx7.below hb8 (by omega)
      have hQ8 := hQ7.later hb8
      have hs58 := hs7.below hb8
      have hB8 := hB7.trans (hb8.mono (by omega))
      have hz8 : w.heap.size + 1 ≤ w8.heap.size := by have := hb8.size; omega
      have hs88 := hs8.anti (M' := mayT (w.heap.size + 1) (.slice a3 L.length c3)) fun i _ hi => by
        rcases hi with hi | hi
        · exact (hQ7.lt i hi).2
        · omega
      have hl88 : Hid (l8 = r) := by unfold Hid; rw [hl8.out, flat1]
      clear hx6 hQ6 hB6 hz6 hs6 hba hS7 hx7 hQ7 hs7 hB7 hz7 hs8 hb8 hcx hl8
      have hbb := (Below.refl w8.heap.size w8).alloc (Nat.le_refl _) (.cells #[.slice a8 l8.length c8, .slice a5 l5.length c5] 61)
      go_wp2_with (at_builtin; refine wpList_push_tr (N := w.heap.size + 1) (B := w.heap.size + 1) (v := .slice a3 L.length c3) (l := L) (q := ⟨l8, l5⟩) (g := w8.heap.size) (c := 1) rfl rfl Try.underlying27 info_trace rfl rfl (by simp [go_sem]) (hQ8.later hbb) (by simp) (by simp) (hs88.below hbb) (hs58.below hbb) (by omega) (by simp; omega) ?_)
      intro a9 c9 l9 w9 hl9 hQ9 hk9 hg9
      have hb9 := (Below.refl (w.heap.size + 1) (w8.alloc (.cells #[.slice a8 l8.length c8, .slice a5 l5.length c5] 61))).grown hg9 (by simp; omega) (fun i hi => (hQ8.lt i hi).1)
      have hb99 := (hbb.mono (show w.heap.size + 1 ≤ w8.heap.size by omega)).trans hb9
      have hx9 := hx8.below hb99 (by omega)
      have hB9 := hB8.trans (hb99.mono (by omega))
      have hz9 : w.heap.size + 1 ≤ w9.heap.size := by have := hb99.size; omega
      have hF9 : Hid (l9 = (rows.take (k + 1)).map m.trW) := by unfold Hid; rw [hl9.out, map_snoc hX.out, hL.out, hl88.out, hl5.out]; rfl
      clear hx8 hQ8 hB8 hz8 hs88 hs58 hbb hk9 hg9 hb9 hb99 hl9 hl88 hl5 hL
      go_wp2
      go_roundw
      case rel => exact ⟨k + 1, a9, c9, l9, by omega, by go_num, rfl, hF9, hQ9, hx9, hB9, hz9⟩
      case measure => simp [intOf]; omega
    · have hF : Hid (L = rows.map m.trW) := by unfold Hid; rw [hL.out, List.take_of_length_le (by omega)]
      have hs := (hQ.sl (Nat.le_refl _)).anti (M' := fun k => k < w.heap.size) fun k _ hk => by omega
      clear hL
      go_wp2
      go_ret2
      exact ⟨a3, c3, L, rfl, hF, hs, hB⟩
end
end Go.Proofs.Ytlgdijgfphedpaa
/- Additions of a machine's own traces: plain words. Condition: the machine is valid, the words are its own. -/
namespace Go.Proofs.Ytlgdijgfphedpaa
open Go.RowKit
theorem hasP_iff {l p : List Int} : hasP l p = true ↔ p <+: l := by unfold hasP; rw [decide_eq_true_iff]; exact comW_prefix
theorem hasP_trans {a b c : List Int} (h1 : hasP a b = true) (h2 : hasP b c = true) : hasP a c = true := hasP_iff.2 ((hasP_iff.1 h2).trans (hasP_iff.1 h1))
theorem hasP_refl (a : List Int) : hasP a a = true := hasP_iff.2 (List.prefix_refl a)
theorem comW_self (a : List Int) : comW a a = a.length := comW_prefix.2 (List.prefix_refl a)
theorem comW_take : ∀ (a b : List Int), a.take (comW a b) = b.take (comW a b)
  | [], b => by rw [comW_nil_l]; simp
  | x :: xs, [] => by rw [comW_nil_r]; simp
  | x :: xs, y :: ys => by
    by_cases h : x = y
    · subst h; rw [comW_same]; simp [comW_take xs ys]
    · rw [comW_diff h]; simp
theorem addS_sub {t x y : Tr} {s : List Tr × Bool} (h : y ∈ s.1) : y ∈ (addS t x s).1 := by
  unfold addS; split
  · exact List.mem_append_left _ h
  · exact h
theorem addR_sub {t x y : Tr} {s : List Tr × Bool} (h : y ∈ s.1) : y ∈ (addR t x s).1 := by
  unfold addR; split
  · exact List.mem_append_left _ (addS_sub h)
  · exact addS_sub h
theorem addR_self {t x : Tr} {s : List Tr × Bool} (h : hasP t.inn x.inn = false ∨ t.inn.length = x.inn.length) : x ∈ (addR t x s).1 := by
  unfold addR; rw [if_pos h]; exact List.mem_append_right _ (by simp)
theorem addS_new {t x : Tr} {s : List Tr × Bool} (h : s.2 = true → t ∈ s.1) (h2 : (addS t x s).2 = true) : t ∈ (addS t x s).1 := by
  unfold addS at h2 ⊢
  split
  · simp
  · rename_i hn; rw [if_neg hn] at h2; exact h h2
theorem addR_new {t x : Tr} {s : List Tr × Bool} (h : s.2 = true → t ∈ s.1) (h2 : (addR t x s).2 = true) : t ∈ (addR t x s).1 := by
  unfold addR at h2 ⊢
  split
  · rename_i hc; rw [if_pos hc] at h2; exact List.mem_append_left _ (addS_new h h2)
  · rename_i hc; rw [if_neg hc] at h2; exact addS_new h h2
/-- How long the list is, and one more while the new trace is not in. -/
def cnt (s : List Tr × Bool) : Nat := s.1.length + (if s.2 = true then 0 else 1)
theorem addS_cnt {t x : Tr} {s : List Tr × Bool} : cnt (addS t x s) = cnt s := by
  unfold addS cnt; split
  · rename_i h; simp [h.1]
  · rfl
theorem addR_cnt {t x : Tr} {s : List Tr × Bool} : cnt (addR t x s) ≤ cnt s + 1 := by
  have := addS_cnt (t := t) (x := x) (s := s)
  unfold addR; split
  · unfold cnt at this ⊢; simp; omega
  · omega
/-- What holds round by round. -/
theorem addF_ind {t : Tr} {l : List Tr} {d : Bool} (P : Nat → List Tr × Bool → Prop) (h0 : P 0 ([], d)) (h1 : ∀ k x s, l[k]? = some x → P k s → P (k + 1) (addR t x s)) : P l.length (addF t l d) := by
  have : ∀ k, k ≤ l.length → P k (addF t (l.take k) d) := by
    intro k
    induction k with
    | zero => intro _; simpa [addF] using h0
    | succ k ih =>
      intro hk
      have e : l[k]? = some l[k] := List.getElem?_eq_getElem (by omega)
      rw [addF_succ e]
      exact h1 k _ _ e (ih (by omega))
  have h := this l.length (Nat.le_refl _)
  rwa [List.take_length] at h
theorem addF_new {t : Tr} {l : List Tr} (h : (addF t l false).2 = true) : t ∈ (addF t l false).1 :=
  addF_ind (t := t) (l := l) (d := false) (fun _ s => s.2 = true → t ∈ s.1) (fun h => by cases h) (fun _ _ _ _ h h2 => addR_new h h2) h
theorem addF_cnt {t : Tr} {l : List Tr} {d : Bool} : cnt (addF t l d) ≤ l.length + 1 :=
  addF_ind (t := t) (l := l) (d := d) (fun k s => cnt s ≤ k + 1) (by unfold cnt; simp; split <;> omega) (fun k x s _ h => by have := addR_cnt (t := t) (x := x) (s := s); omega)
theorem addF_kept {t x : Tr} {l : List Tr} {d : Bool} (hx : x ∈ l) (h : hasP t.inn x.inn = false ∨ t.inn.length = x.inn.length) : x ∈ (addF t l d).1 := by
  obtain ⟨j, hj, rfl⟩ := List.getElem_of_mem hx
  refine addF_ind (t := t) (l := l) (d := d) (fun k s => j < k → l[j] ∈ s.1) (fun h => by omega) (fun k y s hy hP hk => ?_) hj
  by_cases e : j < k
  · exact addR_sub (hP e)
  · obtain rfl : j = k := by omega
    rw [List.getElem?_eq_getElem hj] at hy
    obtain rfl : l[j] = y := by simpa using hy
    exact addR_self h
namespace Ob
variable {o : Ob} {t : Tr}
theorem addT_of {x : Tr} (h : x ∈ (addF t o.traces (o.inside t o.traces.length)).1) : x ∈ o.addT t := by
  unfold addT; simp only
  split
  · exact List.mem_append_left _ h
  · exact h
theorem addT_len : (o.addT t).length ≤ o.traces.length + 1 := by
  have := addF_cnt (t := t) (l := o.traces) (d := o.inside t o.traces.length)
  unfold cnt at this
  unfold addT; simp only
  split
  · rename_i h; rw [h] at this; simp at this; simp; omega
  · rename_i h; simp at h; rw [h] at this; simpa using this
/-- Nothing is lost. -/
theorem addT_new (h0 : t.inn ≠ []) : ∃ z ∈ o.addT t, hasP z.inn t.inn = true := by
  cases hi : o.inside t o.traces.length with
  | false =>
    refine ⟨t, ?_, hasP_refl _⟩
    have hn := addF_new (t := t) (l := o.traces)
    unfold addT; simp only; rw [hi]
    split
    · simp
    · rename_i h; exact hn (by simpa using h)
  | true =>
    unfold inside at hi
    rw [List.take_length, Bool.or_eq_true] at hi
    rcases hi with hi | hi
    · exact absurd (by simpa using hi) h0
    · obtain ⟨x, hx, hp⟩ := List.any_eq_true.1 hi
      refine ⟨x, addT_of (addF_kept hx ?_), hp⟩
      cases hq : hasP t.inn x.inn with
      | false => exact .inl rfl
      | true => exact .inr (by have := hasP_le hp; have := hasP_le hq; omega)
theorem addT_old (h0 : t.inn ≠ []) {y : Tr} (hy : y ∈ o.traces) : ∃ z ∈ o.addT t, hasP z.inn y.inn = true := by
  by_cases h : hasP t.inn y.inn = false
  · exact ⟨y, addT_of (addF_kept hy (.inl h)), hasP_refl _⟩
  · obtain ⟨z, hz, hp⟩ := addT_new (o := o) h0
    exact ⟨z, hz, hasP_trans hp (by simpa using h)⟩
theorem known_iff {w : List Int} (h : w ≠ []) : o.known w = true ↔ ∃ t ∈ o.traces, hasP t.inn w = true := by
  unfold known find
  simp [h]
theorem known_nil : o.known [] = true := by unfold known; simp
theorem known_add (h0 : t.inn ≠ []) {w : List Int} (h : o.known w = true) : (o.adds t).known w = true := by
  by_cases hw : w = []
  · subst hw; exact known_nil
  · obtain ⟨y, hy, hp⟩ := (known_iff hw).1 h
    obtain ⟨z, hz, hq⟩ := addT_old h0 hy
    exact (known_iff hw).2 ⟨z, hz, hasP_trans hq hp⟩
theorem known_new (h0 : t.inn ≠ []) : (o.adds t).known t.inn = true := (known_iff h0).2 (addT_new h0)
end Ob
namespace Mach
variable {m : Mach}
theorem outs_take : ∀ (l : List Int) (s : Int) (n : Nat), (m.outsW s l).take n = m.outsW s (l.take n)
  | [], s, n => by simp [outsW]
  | x :: l, s, 0 => by simp [outsW]
  | x :: l, s, n + 1 => by simp [outsW, outs_take l]
theorem outs_range (ok : m.Ok) : ∀ (l : List Int) (s : Int), 0 ≤ s → s < m.next.length → m.okS l → ∀ y ∈ m.outsW s l, 0 ≤ y ∧ y ≤ 1048576
  | [], s, _, _, _ => by intro y hy; simp [outsW] at hy
  | x :: l, s, h0, h1, h => by
    intro y hy
    have hx := h x (by simp)
    have hn := ok.nx s.toNat x.toNat (by omega) (by omega)
    simp only [outsW, List.mem_cons] at hy
    rcases hy with rfl | hy
    · exact ok.ot s.toNat x.toNat (by omega) (by omega)
    · exact outs_range ok l _ hn.1 hn.2 (fun z hz => h z (by simp [hz])) y hy
theorem trW_dif (u v : List Int) : (m.trW v).dif (m.trW u) = -1 := by
  unfold Tr.dif trW
  simp only
  have e := comW_take v u
  have hle := comW_le v u
  rw [outs_take, outs_take, e, comW_self, outsW_len, List.length_take, if_neg (by omega)]
theorem trW_err (ok : m.Ok) {u : List Int} (h : m.okS u) (hl : u.length ≤ 1024) : (m.trW u).err m.inputs = 0 := by
  have := ok.i0
  have := ok.i1
  refine Tr.err_0 (wErr_0 (by omega) (by simp only [trW]; omega) ?_) (by simp [trW, outsW_len]) ?_
  · rintro ⟨x, hx, hb⟩
    have := h x hx
    omega
  · rintro ⟨y, hy, hb⟩
    have := outs_range ok u m.start ok.s0 ok.s1 h y hy
    unfold badO at hb
    omega
end Mach
/-- Observations of a machine. -/
structure Tq (m : Mach) (o : Ob) (n : Nat) : Prop where
  inp : o.inputs = m.inputs
  tr : ∀ t ∈ o.traces, ∃ v, m.okS v ∧ v.length ≤ 1024 ∧ t = m.trW v
  len : o.traces.length ≤ n
namespace Tq
variable {m : Mach} {o : Ob} {n : Nat}
theorem lens (h : Tq m o n) : o.lens := by
  intro t ht
  obtain ⟨v, _, hl, rfl⟩ := h.tr t ht
  simp [Mach.trW, Mach.outsW_len]; omega
theorem ans (h : Tq m o n) {v : List Int} (hk : o.known v = true) : o.ans v = m.outsW m.start v := by
  by_cases h0 : v = []
  · rw [(o.ans_nil h0).1, h0]; rfl
  · rcases find_cases o v with hn | ⟨k, t, ht, hp, hn⟩
    · rw [(o.ans_none h0 hn).2] at hk; cases hk
    · rw [(o.ans_some h0 ht hp hn).1]
      obtain ⟨u, _, _, rfl⟩ := h.tr t (List.mem_of_getElem? ht)
      obtain ⟨r, hr⟩ := hasP_iff.1 hp
      simp only [Mach.trW] at hr ⊢
      rw [Mach.outs_take, ← hr, List.take_left' rfl]
theorem add (h : Tq m o n) (ok : m.Ok) {u : List Int} (hu : m.okS u) (hl : u.length ≤ 1024) (hn : n + 1 ≤ 10000) : o.addE (m.trW u) = 0 ∧ o.addO (m.trW u) = o.adds (m.trW u) ∧ Tq m (o.adds (m.trW u)) (n + 1) := by
  have h1 : (m.trW u).err o.inputs = 0 := by rw [h.inp]; exact Mach.trW_err ok hu hl
  have h2 : o.clash (m.trW u) o.traces.length = false := by
    unfold Ob.clash
    rw [List.take_length, List.any_eq_false]
    intro x hx
    obtain ⟨v, _, _, rfl⟩ := h.tr x hx
    rw [Mach.trW_dif]; decide
  have h3 := Ob.addT_len (o := o) (t := m.trW u)
  have h4 := h.len
  have h5 := Ob.addE_0 h1 h2 (by omega)
  refine ⟨h5.1, h5.2, h.inp, ?_, by show (o.addT _).length ≤ _; omega⟩
  intro t ht
  rcases addT_mem ht with rfl | ht
  · exact ⟨u, hu, hl, rfl⟩
  · exact h.tr t ht
/-- The first observations. -/
theorem one (ok : m.Ok) {w : List Int} (h : m.okS w) (hl : w.length ≤ 1024) (h0 : w ≠ []) : (⟨m.inputs, []⟩ : Ob).addE (m.trW w) = 0 ∧ (⟨m.inputs, []⟩ : Ob).foldA [m.trW w] = ⟨m.inputs, [m.trW w]⟩ ∧ Tq m ⟨m.inputs, [m.trW w]⟩ 1 ∧ (⟨m.inputs, [m.trW w]⟩ : Ob).known w = true := by
  have h1 : Tq m ⟨m.inputs, []⟩ 0 := ⟨rfl, fun t ht => by simp at ht, by simp⟩
  obtain ⟨e1, e2, _⟩ := h1.add ok h hl (by omega)
  refine ⟨e1, ?_, ⟨rfl, fun t ht => ?_, by simp⟩, (Ob.known_iff h0).2 ⟨m.trW w, by simp, hasP_refl _⟩⟩
  · show (⟨m.inputs, []⟩ : Ob).addO (m.trW w) = _
    rw [e2]
    unfold Ob.adds Ob.addT Ob.inside
    simp [addF, Mach.trW, h0]
  · obtain rfl : t = m.trW w := by simpa using ht
    exact ⟨w, h, hl, rfl⟩
end Tq
end Go.Proofs.Ytlgdijgfphedpaa
/- How often a number must be halved. Condition: at most 10^9. -/
namespace Go.Proofs.Ytlgdijgfphedpaa
open Go.RowKit
def halv (n : Nat) : Nat := if _h : 1 < n then halv ((n + 1) / 2) + 1 else 0
termination_by n
decreasing_by omega
theorem halv_hit {n : Nat} (h : 1 < n) : halv n = halv ((n + 1) / 2) + 1 := by rw [halv, dif_pos h]
theorem halv_end {n : Nat} (h : ¬ 1 < n) : halv n = 0 := by rw [halv, dif_neg h]
theorem halv_le (n : Nat) : halv n ≤ n := by
  induction n using Nat.strongRecOn with
  | _ n ih =>
    by_cases h : 1 < n
    · rw [halv_hit h]
      have := ih ((n + 1) / 2) (by omega)
      omega
    · rw [halv_end h]; omega
section
variable {w : World}
set_option maxRecDepth 100000 in
set_option maxHeartbeats 1000000 in
theorem halv_any (n : Nat) (hn : n ≤ 1000000000) : Calls Try.prog 24 #[.int .i64 n] w fun e w' => e = .returned (.int .i64 (halv n)) ∧ w' = w := by
  have hh := halv_le n
  go_enter Try.func24, Try.ntmps24
  go_wp2
  go_loop [0, 3] (fun x k => ∃ i j : Nat, x = .int .i64 i ∧ k = .int .i64 j ∧ i ≤ n ∧ Hid (j + halv i = halv n)) (fun x _ => (intOf x).toNat)
  case atStart => exact ⟨n, 0, rfl, rfl, Nat.le_refl _, by unfold Hid; omega⟩
  case round =>
    obtain ⟨i, j, rfl, rfl, hi, hF⟩ := hrel
    have hj : j ≤ n := by have := hF.out; omega
    by_cases h : 1 < i
    · have hd : decide ((1 : Int) < (i : Int)) = true := by simp; omega
      have hF2 : Hid (j + 1 + halv ((i + 1) / 2) = halv n) := by unfold Hid; rw [← hF.out, halv_hit h]; omega
      have hq : ((i : Int) + 1).tdiv 2 = (((i + 1) / 2 : Nat) : Int) := by rw [Int.tdiv_eq_ediv_of_nonneg (by omega)]; omega
      go_wp2
      go_round
      case rel => exact ⟨(i + 1) / 2, j + 1, by go_num, by go_num, by omega, hF2⟩
      case measure => simp [intOf]; omega
    · have hd : decide ((1 : Int) < (i : Int)) = false := by simp; omega
      have hF2 : Hid (j = halv n) := by unfold Hid; rw [← hF.out, halv_end h]; rfl
      go_wp2
      go_ret
      exact ⟨ret_ij (by rw [hF2.out]), rfl⟩
end
end Go.Proofs.Ytlgdijgfphedpaa
/- The reference's Of. Condition: a valid machine, at most 10000 words, all valid; no addition errs. -/
namespace Go.Proofs.Ytlgdijgfphedpaa
open Go.RowKit
section
variable {M M' : Nat → Prop} {w : World} {an ao a : Option Addr} {cn co c : Nat} {m : Mach} {rows : List (List Int)}
set_option maxRecDepth 100000 in
set_option maxHeartbeats 8000000 in
theorem ofR_any (hm : Ma M w an cn ao co m) (hw : Sl M' w a c rows) (he : Hid (m.err = 0)) (hr : Hid (∀ l ∈ rows, wErr l m.inputs = 0 ∧ m.okS l)) (hst : Hid (0 ≤ m.start ∧ m.start < m.next.length)) (hn : rows.length ≤ 10000) (hi : i64 m.inputs)
    (hok : Hid (∀ k t, (rows.map m.trW)[k]? = some t → ((⟨m.inputs, []⟩ : Ob).foldA ((rows.map m.trW).take k)).traces.length ≤ 10000 ∧ ((⟨m.inputs, []⟩ : Ob).foldA ((rows.map m.trW).take k)).lens ∧ ((⟨m.inputs, []⟩ : Ob).foldA ((rows.map m.trW).take k)).addE t = 0))
    (hin : Hid (∀ k, ((⟨m.inputs, []⟩ : Ob).foldA ((rows.map m.trW).take k)).inputs = m.inputs)) :
    Calls Try.prog 23 #[maV m an cn ao co, .slice a rows.length c] w fun e w' => ∃ (a' : Option Addr) (c' : Nat) (L : List Tr), e = .returned (.tuple #[.agg #[.int .i64 m.inputs, .slice a' L.length c'], .int .i64 0]) ∧ Hid (L = ((⟨m.inputs, []⟩ : Ob).foldA (rows.map m.trW)).traces) ∧
      Sl (fun k => k < w.heap.size) w' a' c' L ∧ Below w.heap.size w w' := by
  have hll := hw.le
  have HM := Lib.hid hm
  have HW := Lib.hid hw
  have hB0 := ((Below.refl w.heap.size w).alloc (Nat.le_refl _) (maO m an cn ao co)).alloc (by simp) zeOb
  have hx0 := (c4_new (m := m) (an := an) (cn := cn) (ao := ao) (co := co) w).below ((Below.refl _ _).alloc (Nat.le_refl _) zeOb) (by simp)
  have hr0 : ((w.alloc (maO m an cn ao co)).alloc zeOb).heap[w.heap.size + 1]? = some zeOb := by
    have k := heap_alloc_new (w.alloc (maO m an cn ao co)) zeOb
    simpa using k
  have HR := Lib.hid hr0
  have hz0 : w.heap.size + 2 ≤ ((w.alloc (maO m an cn ao co)).alloc zeOb).heap.size := by simp
  clear hm hw hr0
  go_enter Try.func23, Try.ntmps23
  go_wp2_with fail
  generalize (w.alloc (maO m an cn ao co)).alloc zeOb = w0 at *
  refine (tracesR_any (HM.out.below hB0) (HW.out.below hB0) he hr hst hn).mono ?_
  rintro e w1 ⟨a1, c1, l1, rfl, hl1, hs1, hb1⟩
  have hB1 := hB0.trans (hb1.mono (by have := hB0.size; omega))
  have hx1 := hx0.below hb1 (by omega)
  have hz1 : w.heap.size + 2 ≤ w1.heap.size := by have := hb1.size; omega
  have HR := Lib.hid ((hb1.block (w.heap.size + 1) (by omega)).trans HR.out)
  clear hB0 hx0 hz0 hb1
  go_wp2_with fail
  rw [← hl1.out] at hok hin
  refine (allR_any (o := ⟨m.inputs, []⟩) (M := fun _ => True) ⟨hi, Sl.nil _ _ _ (by unfold maxLen; omega)⟩ hs1 hok hin).mono ?_
  rintro e w2 ⟨a3, c3, l3, rfl, hl3, hs3, hb2⟩
  have hba := (Below.refl w2.heap.size w2).alloc (Nat.le_refl _) (.cells #[.int .i64 m.inputs, .slice a3 l3.length c3] 29)
  have hb3 := hb2.trans (hba.mono hb2.size)
  have hB3 := hB1.trans (hb3.mono (by omega))
  have hrow := (hb3.block (w.heap.size + 1) (by omega)).trans HR.out
  have hs4 := (hs3.anti (M' := fun k => k < w.heap.size + 2) fun k _ hk => ⟨trivial, by omega⟩).below hba
  have hF : Hid (l3 = ((⟨m.inputs, []⟩ : Ob).foldA (rows.map m.trW)).traces) := by unfold Hid; rw [hl3.out, hl1.out]
  obtain ⟨⟨r0, r1⟩, rf⟩ := cells2 hrow
  have rf0 := rf 0
  have rf1 := rf 1
  have HRn := Lib.hid (set2 (y0 := .int .i64 m.inputs) (y1 := .slice a3 l3.length c3) hrow)
  have HBn := Lib.hid (bel_st2 hB3 (g := w.heap.size + 1) (y0 := .int .i64 m.inputs) (y1 := .slice a3 l3.length c3) (by omega))
  have HSn := Lib.hid (hs4.st2 (g := w.heap.size + 1) (n := w.heap.size) (y0 := .int .i64 m.inputs) (y1 := .slice a3 l3.length c3) (by omega) (by omega))
  obtain ⟨⟨q0, q1⟩, -⟩ := cells2 HRn.out
  dsimp only [st2] at q0 q1 HRn HBn HSn
  clear hl1 hl3 hrow hB3 hb3 hs4 hs3
  go_wp2
  generalize hgg : ((w2.alloc (.cells #[.int .i64 m.inputs, .slice a3 l3.length c3] 29)).setCell ⟨w.heap.size + 1, 0, none⟩ (.int .i64 m.inputs)).setCell ⟨w.heap.size + 1, 1, none⟩ (.slice a3 l3.length c3) = wz at *
  clear hgg
  exact bodyPost_ret (v := .tuple #[.agg #[.int .i64 m.inputs, .slice a3 l3.length c3], .int .i64 0]) (by simp [results, Try.results23, go_sem, q0, q1]) rfl ⟨a3, c3, l3, rfl, hF, HSn.out, HBn.out⟩
end
end Go.Proofs.Ytlgdijgfphedpaa
/- The reference's test for traces that continue or contradict others; the reference's error of observations. No condition. -/
namespace Go.Proofs.Ytlgdijgfphedpaa
open Go.RowKit

/-- A trace in two cells. -/
abbrev Tc (w : World) (b o : Nat) (a1 : Option Addr) (c1 : Nat) (a2 : Option Addr) (c2 : Nat) (t : Tr) : Prop := w.cell? ⟨b, o, none⟩ = some (.slice a1 t.inn.length c1) ∧ w.cell? ⟨b, o + 1, none⟩ = some (.slice a2 t.out.length c2)
theorem Tc.below {B b o : Nat} {w w' : World} {a1 a2 : Option Addr} {c1 c2 : Nat} {t : Tr} (h : Tc w b o a1 c1 a2 c2 t) (hb : Below B w w') (hlt : b < B) : Tc w' b o a1 c1 a2 c2 t :=
  ⟨(hb.cell (p := ⟨b, o, none⟩) hlt).trans h.1, (hb.cell (p := ⟨b, o + 1, none⟩) hlt).trans h.2⟩
section
variable {M M' : Nat → Prop} {w : World} {a b : Option Addr} {c d : Nat}

set_option maxRecDepth 100000 in
set_option maxHeartbeats 4000000 in
theorem apartR_any {o : Ob} (ho : Os M w a c o) (hl : Hid o.lens) :
    Calls Try.prog 32 #[obV o a c] w fun e w' => e = .returned (.int .i64 (o.apsErr o.traces.length)) ∧ Below w.heap.size w w' := by
  have hol := ho.traces.le
  have hB0 := (Below.refl w.heap.size w).alloc (Nat.le_refl _) (obO o a c)
  have HO := Lib.hid ho
  have hx0 : O2 (w.alloc (obO o a c)) w.heap.size a c o := o2_new w
  have hz0 : w.heap.size + 1 ≤ (w.alloc (obO o a c)).heap.size := by simp
  clear ho
  go_enter Try.func32, Try.ntmps32
  go_wp2
  generalize w.alloc (obO o a c) = w0 at *
  go_loopw [3] (fun i wr => ∃ k : Nat, k ≤ o.traces.length ∧ i = .int .i64 k ∧ Hid (o.apsErr k = 0) ∧ O2 wr w.heap.size a c o ∧ Below w.heap.size w wr ∧ w.heap.size + 1 ≤ wr.heap.size) (fun i _ => o.traces.length - (intOf i).toNat)
  case atStart => exact ⟨0, by omega, rfl, rfl, hx0, hB0, hz0⟩
  case round =>
    clear hx0 hB0 hz0
    obtain ⟨i, hi, rfl, hE, hx, hB, hz⟩ := hrel
    obtain ⟨w1, rfl⟩ : ∃ w1 : World, w1 = wr := ⟨_, rfl⟩
    by_cases hlt : i < o.traces.length
    · have hP0 : Hid (false = o.preB i (i + 1)) := (o.preB_low (Nat.le_refl _)).symm
      have hQ0 : Hid (false = o.claB i (i + 1)) := (o.claB_low (Nat.le_refl _)).symm
      go_wp2
      go_loopw [4, 5, 6] (fun p q k wr => ∃ (j : Nat) (pb qb : Bool), i < j ∧ j ≤ o.traces.length ∧ k = .int .i64 j ∧ p = .bool pb ∧ q = .bool qb ∧ Hid (pb = o.preB i j) ∧ Hid (qb = o.claB i j) ∧ O2 wr w.heap.size a c o ∧ Below w.heap.size w wr ∧ w.heap.size + 1 ≤ wr.heap.size) (fun _ _ k _ => o.traces.length - (intOf k).toNat)
      case atStart => exact ⟨i + 1, false, false, by omega, by omega, by go_num, rfl, rfl, hP0, hQ0, hx, hB, hz⟩
      case round =>
        clear hx hB hz hP0 hQ0
        obtain ⟨j, pb, qb, hij, hj, rfl, rfl, rfl, hP, hQ, hx, hB, hz⟩ := hrel
        obtain ⟨w2, rfl⟩ : ∃ w2 : World, w2 = wr := ⟨_, rfl⟩
        by_cases hjl : j < o.traces.length
        · obtain ⟨b1, o1, a1, c1, a2, c2, s, rfl, hc1, hc2, hs, hs1, hs2⟩ := (HO.out.below hB).traces.at_tr hlt
          obtain ⟨b3, o3, a3, c3, a4, c4, t, he3, hc3, hc4, ht, ht1, ht2⟩ := (HO.out.below hB).traces.at_tr hjl
          obtain ⟨rfl, rfl⟩ : b1 = b3 ∧ o1 = o3 := by simpa using he3
          have hSS : O2 w2 w.heap.size (some ⟨b1, o1, none⟩) c o ∧ Tc w2 b1 (o1 + i * 2) a1 c1 a2 c2 s ∧ Tc w2 b1 (o1 + j * 2) a3 c3 a4 c4 t := ⟨hx, ⟨hc1, hc2⟩, ⟨hc3, hc4⟩⟩
          have hbl := lt_of_cell hc1
          have HP2 : Hid (o.preB i (j + 1) = (pb || hasP t.inn s.inn)) := by
            unfold Hid; rw [Ob.preB_succ, ← hP.out, decide_eq_true hij, Bool.true_and, Ob.tr_of hs.out, Ob.tr_of ht.out]
          have HQ2 : Hid (o.claB i (j + 1) = (qb || decide (0 ≤ s.dif t))) := by
            unfold Hid; rw [Ob.claB_succ, ← hQ.out, decide_eq_true hij, Bool.true_and, Ob.tr_of hs.out, Ob.tr_of ht.out]
          have hls := Lib.hid (And.intro (hl.out s (List.mem_of_getElem? hs.out)).1 (hl.out t (List.mem_of_getElem? ht.out)).1)
          have H1 := Lib.hid (And.intro hs1 hs2)
          have H2 := Lib.hid (And.intro ht1 ht2)
          clear hx hc1 hc2 hc3 hc4 hs1 hs2 ht1 ht2 hP hQ hs ht he3
          go_wp2
          refine wp_region_L (fun w' => O2 w' w.heap.size (some ⟨b1, o1, none⟩) c o ∧ Tc w' b1 (o1 + i * 2) a1 c1 a2 c2 s ∧ Tc w' b1 (o1 + j * 2) a3 c3 a4 c4 t) [0, 1, 2, 3, 4, 5, 6, 7, 8, 9, 10, 11, 12, 13, 15, 16] (by kernel_rfl) ?_
          have hSd : O2 w2.drew w.heap.size (some ⟨b1, o1, none⟩) c o ∧ Tc w2.drew b1 (o1 + i * 2) a1 c1 a2 c2 s ∧ Tc w2.drew b1 (o1 + j * 2) a3 c3 a4 c4 t := ⟨hSS.1.below (Below.refl w2.heap.size w2).drew (by omega), hSS.2.1.below (Below.refl w2.heap.size w2).drew hbl, hSS.2.2.below (Below.refl w2.heap.size w2).drew hbl⟩
          have hBd := hB.drew
          have H1 := Lib.hid (And.intro (H1.out.1.drew) (H1.out.2.drew))
          have H2 := Lib.hid (And.intro (H2.out.1.drew) (H2.out.2.drew))
          have hzd : w.heap.size + 1 ≤ w2.drew.heap.size := hz
          have hbd : b1 < w2.drew.heap.size := hbl
          clear hSS hB hz hbl
          generalize w2.drew = w3 at *
          rcases pb with _ | _
          · have HC := Lib.hid (haspR_is H2.out.1 H1.out.1 rfl)
            refine wpAnyL_take (i := 0) (v := ?v43) rfl (by kernel_rfl) (by kernel_rfl) (by kernel_rfl) (by kernel_rfl) (fun _ _ _ h => h) (Or.inl ⟨by rfl, ?y43⟩) (by assumption) ?r43
            case y43 => (intro w' hSw; (try dsimp only at hSw); go_simp; try with_reducible rfl)
            try simp only [Act.put, List.setIfInBounds_toArray, List.set_cons_zero, List.set_cons_succ]
            refine wpAnyL_take (i := 1) (v := ?v44) rfl (by kernel_rfl) (by kernel_rfl) (by kernel_rfl) (by kernel_rfl) (fun _ _ _ h => h) (Or.inl ⟨by rfl, ?y44⟩) (by assumption) ?r44
            case y44 => (intro w' hSw; (try dsimp only at hSw); go_simp; try with_reducible rfl)
            try simp only [Act.put, List.setIfInBounds_toArray, List.set_cons_zero, List.set_cons_succ]
            refine wpAnyL_take (i := 2) (v := ?v45) rfl (by kernel_rfl) (by kernel_rfl) (by kernel_rfl) (by kernel_rfl) (fun _ _ _ h => h) (Or.inl ⟨by rfl, ?y45⟩) (by assumption) ?r45
            case y45 => (intro w' hSw; (try dsimp only at hSw); go_simp; try with_reducible rfl)
            try simp only [Act.put, List.setIfInBounds_toArray, List.set_cons_zero, List.set_cons_succ]
            refine wpAnyL_take (i := 3) (v := ?v46) rfl (by kernel_rfl) (by kernel_rfl) (by kernel_rfl) (by kernel_rfl) (fun _ _ _ h => h) (Or.inl ⟨by rfl, ?y46⟩) (by assumption) ?r46
            case y46 => (intro w' hSw; (try dsimp only at hSw); go_simp; try with_reducible rfl)
            try simp only [Act.put, List.setIfInBounds_toArray, List.set_cons_zero, List.set_cons_succ]
            refine wpAnyL_take (i := 4) (v := ?v47) rfl (by kernel_rfl) (by kernel_rfl) (by kernel_rfl) (by kernel_rfl) (fun _ _ _ h => h) (Or.inl ⟨by rfl, ?y47⟩) (by assumption) ?r47
            case y47 => (intro w' hSw; (try dsimp only at hSw); go_simp; try with_reducible rfl)
            try simp only [Act.put, List.setIfInBounds_toArray, List.set_cons_zero, List.set_cons_succ]
            refine wpAnyL_take (i := 5) (v := ?v48) rfl (by kernel_rfl) (by kernel_rfl) (by kernel_rfl) (by kernel_rfl) (fun _ _ _ h => h) (Or.inl ⟨by rfl, ?y48⟩) (by assumption) ?r48
            case y48 => (intro w' hSw; (try dsimp only at hSw); go_simp; try with_reducible rfl)
            try simp only [Act.put, List.setIfInBounds_toArray, List.set_cons_zero, List.set_cons_succ]
            refine wpAnyL_take (i := 6) (v := ?v49) rfl (by kernel_rfl) (by kernel_rfl) (by kernel_rfl) (by kernel_rfl) (fun _ _ _ h => h) (Or.inl ⟨by rfl, ?y49⟩) (by assumption) ?r49
            case y49 => (intro w' hSw; (try dsimp only at hSw); go_simp; try with_reducible rfl)
            try simp only [Act.put, List.setIfInBounds_toArray, List.set_cons_zero, List.set_cons_succ]
            refine wpAnyL_take (i := 7) (v := ?v50) rfl (by kernel_rfl) (by kernel_rfl) (by kernel_rfl) (by kernel_rfl) (fun _ _ _ h => h) (Or.inl ⟨by rfl, ?y50⟩) (by assumption) ?r50
            case y50 => (intro w' hSw; (try dsimp only at hSw); go_simp; try with_reducible rfl)
            try simp only [Act.put, List.setIfInBounds_toArray, List.set_cons_zero, List.set_cons_succ]
            refine wpAnyL_take (i := 8) (v := ?v51) rfl (by kernel_rfl) (by kernel_rfl) (by kernel_rfl) (by kernel_rfl) (fun _ _ _ h => h) (Or.inl ⟨by rfl, ?y51⟩) (by assumption) ?r51
            case y51 => (intro w' hSw; (try dsimp only at hSw); go_simp; try with_reducible rfl)
            try simp only [Act.put, List.setIfInBounds_toArray, List.set_cons_zero, List.set_cons_succ]
            refine wpAnyL_take (i := 9) (v := ?v52) rfl (by kernel_rfl) (by kernel_rfl) (by kernel_rfl) (by kernel_rfl) (fun _ _ _ h => h) (Or.inl ⟨by rfl, ?y52⟩) (by assumption) ?r52
            case y52 => (intro w' hSw; (try dsimp only at hSw); go_simp; try with_reducible rfl)
            try simp only [Act.put, List.setIfInBounds_toArray, List.set_cons_zero, List.set_cons_succ]
            refine wpAnyL_take (i := 10) (v := ?v53) rfl (by kernel_rfl) (by kernel_rfl) (by kernel_rfl) (by kernel_rfl) (fun _ _ _ h => h) (Or.inl ⟨by rfl, ?y53⟩) (by assumption) ?r53
            case y53 => (intro w' hSw; (try dsimp only at hSw); go_simp; try with_reducible rfl)
            try simp only [Act.put, List.setIfInBounds_toArray, List.set_cons_zero, List.set_cons_succ]
            refine wpAnyL_take (i := 11) (v := ?v54) rfl (by kernel_rfl) (by kernel_rfl) (by kernel_rfl) (by kernel_rfl) (fun _ _ _ h => h) (Or.inl ⟨by rfl, ?y54⟩) (by assumption) ?r54
            case y54 => (intro w' hSw; (try dsimp only at hSw); go_simp; try with_reducible rfl)
            try simp only [Act.put, List.setIfInBounds_toArray, List.set_cons_zero, List.set_cons_succ]
            refine wpAnyL_take (i := 12) (v := ?v55) rfl (by kernel_rfl) (by kernel_rfl) (by kernel_rfl) (by kernel_rfl) (fun _ _ _ h => h) (Or.inl ⟨by rfl, ?y55⟩) (by assumption) ?r55
            case y55 => (intro w' hSw; (try dsimp only at hSw); go_simp; try with_reducible rfl)
            try simp only [Act.put, List.setIfInBounds_toArray, List.set_cons_zero, List.set_cons_succ]
            refine wpAnyL_take (i := 13) (v := ?v56) rfl (by kernel_rfl) (by kernel_rfl) (by kernel_rfl) (by kernel_rfl) (fun _ _ _ h => h) (Or.inl ⟨by rfl, ?y56⟩) (by assumption) ?r56
            case y56 => (intro w' hSw; (try dsimp only at hSw); go_simp; try with_reducible rfl)
            try simp only [Act.put, List.setIfInBounds_toArray, List.set_cons_zero, List.set_cons_succ]
            refine wpAnyL_one (i := 14) (by kernel_rfl) rfl rfl (fun K hK => ?_)
            go_simp
            refine (HC.out).mono ?_
            rintro e w4 ⟨rfl, hb4⟩
            have hS4 : O2 w4 w.heap.size (some ⟨b1, o1, none⟩) c o ∧ Tc w4 b1 (o1 + i * 2) a1 c1 a2 c2 s ∧ Tc w4 b1 (o1 + j * 2) a3 c3 a4 c4 t := ⟨hSd.1.below hb4 (by omega), hSd.2.1.below hb4 hbd, hSd.2.2.below hb4 hbd⟩
            refine hK _ _ (fun _ => hS4) ?_
            clear hK K
            refine wpAnyL_take (i := 15) (v := ?v57) rfl (by kernel_rfl) (by kernel_rfl) (by kernel_rfl) (by kernel_rfl) (fun _ _ _ h => h) (Or.inl ⟨by rfl, ?y57⟩) (by assumption) ?r57
            case y57 => (intro w' hSw; (try dsimp only at hSw); go_simp; try with_reducible rfl)
            try simp only [Act.put, List.setIfInBounds_toArray, List.set_cons_zero, List.set_cons_succ]
            refine wpAnyL_take (i := 16) (v := ?v58) rfl (by kernel_rfl) (by kernel_rfl) (by kernel_rfl) (by kernel_rfl) (fun _ _ _ h => h) (Or.inl ⟨by rfl, ?y58⟩) (by assumption) ?r58
            case y58 => (intro w' hSw; (try dsimp only at hSw); go_simp; try with_reducible rfl)
            try simp only [Act.put, List.setIfInBounds_toArray, List.set_cons_zero, List.set_cons_succ]
            refine wpAnyL_done (by kernel_rfl) ?_ _
            have HP3 : Hid (o.preB i (j + 1) = hasP t.inn s.inn) := by unfold Hid; rw [HP2.out, Bool.false_or]
            have hB4 := hBd.trans (hb4.mono (by omega))
            have H1 := Lib.hid (And.intro (H1.out.1.below hb4) (H1.out.2.below hb4))
            have H2 := Lib.hid (And.intro (H2.out.1.below hb4) (H2.out.2.below hb4))
            have hz4 : w.heap.size + 1 ≤ w4.heap.size := by have := hb4.size; omega
            have hbl : b1 < w4.heap.size := by have := hb4.size; omega
            clear HC hSd hBd hzd hbd hb4 HP2
            go_wp2
            refine wp_region_L (fun w' => O2 w' w.heap.size (some ⟨b1, o1, none⟩) c o ∧ Tc w' b1 (o1 + i * 2) a1 c1 a2 c2 s ∧ Tc w' b1 (o1 + j * 2) a3 c3 a4 c4 t) [0, 1, 2, 3, 4, 5, 6, 7, 8, 9, 10, 11, 13, 14, 15] (by kernel_rfl) ?_
            have hSd : O2 w4.drew w.heap.size (some ⟨b1, o1, none⟩) c o ∧ Tc w4.drew b1 (o1 + i * 2) a1 c1 a2 c2 s ∧ Tc w4.drew b1 (o1 + j * 2) a3 c3 a4 c4 t := ⟨hS4.1.below (Below.refl w4.heap.size w4).drew (by omega), hS4.2.1.below (Below.refl w4.heap.size w4).drew hbl, hS4.2.2.below (Below.refl w4.heap.size w4).drew hbl⟩
            have hBd := hB4.drew
            have H1 := Lib.hid (And.intro (H1.out.1.drew) (H1.out.2.drew))
            have H2 := Lib.hid (And.intro (H2.out.1.drew) (H2.out.2.drew))
            have hzd : w.heap.size + 1 ≤ w4.drew.heap.size := hz4
            have hbd : b1 < w4.drew.heap.size := hbl
            clear hS4 hB4 hz4 hbl
            generalize w4.drew = w5 at *
            rcases qb with _ | _
            · have HC := Lib.hid (difR_any H1.out.1 H1.out.2 H2.out.1 H2.out.2 hls)
              refine wpAnyL_take (i := 0) (v := ?v59) rfl (by kernel_rfl) (by kernel_rfl) (by kernel_rfl) (by kernel_rfl) (fun _ _ _ h => h) (Or.inl ⟨by rfl, ?y59⟩) (by assumption) ?r59
              case y59 => (intro w' hSw; (try dsimp only at hSw); go_simp; try with_reducible rfl)
              try simp only [Act.put, List.setIfInBounds_toArray, List.set_cons_zero, List.set_cons_succ]
              refine wpAnyL_take (i := 1) (v := ?v60) rfl (by kernel_rfl) (by kernel_rfl) (by kernel_rfl) (by kernel_rfl) (fun _ _ _ h => h) (Or.inl ⟨by rfl, ?y60⟩) (by assumption) ?r60
              case y60 => (intro w' hSw; (try dsimp only at hSw); go_simp; try with_reducible rfl)
              try simp only [Act.put, List.setIfInBounds_toArray, List.set_cons_zero, List.set_cons_succ]
              refine wpAnyL_take (i := 2) (v := ?v61) rfl (by kernel_rfl) (by kernel_rfl) (by kernel_rfl) (by kernel_rfl) (fun _ _ _ h => h) (Or.inl ⟨by rfl, ?y61⟩) (by assumption) ?r61
              case y61 => (intro w' hSw; (try dsimp only at hSw); go_simp; try with_reducible rfl)
              try simp only [Act.put, List.setIfInBounds_toArray, List.set_cons_zero, List.set_cons_succ]
              refine wpAnyL_take (i := 3) (v := ?v62) rfl (by kernel_rfl) (by kernel_rfl) (by kernel_rfl) (by kernel_rfl) (fun _ _ _ h => h) (Or.inl ⟨by rfl, ?y62⟩) (by assumption) ?r62
              case y62 => (intro w' hSw; (try dsimp only at hSw); go_simp; try with_reducible rfl)
              try simp only [Act.put, List.setIfInBounds_toArray, List.set_cons_zero, List.set_cons_succ]
              refine wpAnyL_take (i := 4) (v := ?v63) rfl (by kernel_rfl) (by kernel_rfl) (by kernel_rfl) (by kernel_rfl) (fun _ _ _ h => h) (Or.inl ⟨by rfl, ?y63⟩) (by assumption) ?r63
              case y63 => (intro w' hSw; (try dsimp only at hSw); go_simp; try with_reducible rfl)
              try simp only [Act.put, List.setIfInBounds_toArray, List.set_cons_zero, List.set_cons_succ]
              refine wpAnyL_take (i := 5) (v := ?v64) rfl (by kernel_rfl) (by kernel_rfl) (by kernel_rfl) (by kernel_rfl) (fun _ _ _ h => h) (Or.inl ⟨by rfl, ?y64⟩) (by assumption) ?r64
              case y64 => (intro w' hSw; (try dsimp only at hSw); go_simp; try with_reducible rfl)
              try simp only [Act.put, List.setIfInBounds_toArray, List.set_cons_zero, List.set_cons_succ]
              refine wpAnyL_take (i := 6) (v := ?v65) rfl (by kernel_rfl) (by kernel_rfl) (by kernel_rfl) (by kernel_rfl) (fun _ _ _ h => h) (Or.inl ⟨by rfl, ?y65⟩) (by assumption) ?r65
              case y65 => (intro w' hSw; (try dsimp only at hSw); go_simp; try with_reducible rfl)
              try simp only [Act.put, List.setIfInBounds_toArray, List.set_cons_zero, List.set_cons_succ]
              refine wpAnyL_take (i := 7) (v := ?v66) rfl (by kernel_rfl) (by kernel_rfl) (by kernel_rfl) (by kernel_rfl) (fun _ _ _ h => h) (Or.inl ⟨by rfl, ?y66⟩) (by assumption) ?r66
              case y66 => (intro w' hSw; (try dsimp only at hSw); go_simp; try with_reducible rfl)
              try simp only [Act.put, List.setIfInBounds_toArray, List.set_cons_zero, List.set_cons_succ]
              refine wpAnyL_take (i := 8) (v := ?v67) rfl (by kernel_rfl) (by kernel_rfl) (by kernel_rfl) (by kernel_rfl) (fun _ _ _ h => h) (Or.inl ⟨by rfl, ?y67⟩) (by assumption) ?r67
              case y67 => (intro w' hSw; (try dsimp only at hSw); go_simp; try with_reducible rfl)
              try simp only [Act.put, List.setIfInBounds_toArray, List.set_cons_zero, List.set_cons_succ]
              refine wpAnyL_take (i := 9) (v := ?v68) rfl (by kernel_rfl) (by kernel_rfl) (by kernel_rfl) (by kernel_rfl) (fun _ _ _ h => h) (Or.inl ⟨by rfl, ?y68⟩) (by assumption) ?r68
              case y68 => (intro w' hSw; (try dsimp only at hSw); go_simp; try with_reducible rfl)
              try simp only [Act.put, List.setIfInBounds_toArray, List.set_cons_zero, List.set_cons_succ]
              refine wpAnyL_take (i := 10) (v := ?v69) rfl (by kernel_rfl) (by kernel_rfl) (by kernel_rfl) (by kernel_rfl) (fun _ _ _ h => h) (Or.inl ⟨by rfl, ?y69⟩) (by assumption) ?r69
              case y69 => (intro w' hSw; (try dsimp only at hSw); go_simp; try with_reducible rfl)
              try simp only [Act.put, List.setIfInBounds_toArray, List.set_cons_zero, List.set_cons_succ]
              refine wpAnyL_take (i := 11) (v := ?v70) rfl (by kernel_rfl) (by kernel_rfl) (by kernel_rfl) (by kernel_rfl) (fun _ _ _ h => h) (Or.inl ⟨by rfl, ?y70⟩) (by assumption) ?r70
              case y70 => (intro w' hSw; (try dsimp only at hSw); go_simp; try with_reducible rfl)
              try simp only [Act.put, List.setIfInBounds_toArray, List.set_cons_zero, List.set_cons_succ]
              refine wpAnyL_one (i := 12) (by kernel_rfl) rfl rfl (fun K hK => ?_)
              go_simp
              refine (HC.out).mono ?_
              rintro e w6 ⟨rfl, hb6⟩
              have hS6 : O2 w6 w.heap.size (some ⟨b1, o1, none⟩) c o ∧ Tc w6 b1 (o1 + i * 2) a1 c1 a2 c2 s ∧ Tc w6 b1 (o1 + j * 2) a3 c3 a4 c4 t := ⟨hSd.1.below hb6 (by omega), hSd.2.1.below hb6 hbd, hSd.2.2.below hb6 hbd⟩
              refine hK _ _ (fun _ => hS6) ?_
              clear hK K
              refine wpAnyL_take (i := 13) (v := ?v71) rfl (by kernel_rfl) (by kernel_rfl) (by kernel_rfl) (by kernel_rfl) (fun _ _ _ h => h) (Or.inl ⟨by rfl, ?y71⟩) (by assumption) ?r71
              case y71 => (intro w' hSw; (try dsimp only at hSw); go_simp; try with_reducible rfl)
              try simp only [Act.put, List.setIfInBounds_toArray, List.set_cons_zero, List.set_cons_succ]
              refine wpAnyL_take (i := 14) (v := ?v72) rfl (by kernel_rfl) (by kernel_rfl) (by kernel_rfl) (by kernel_rfl) (fun _ _ _ h => h) (Or.inl ⟨by rfl, ?y72⟩) (by assumption) ?r72
              case y72 => (intro w' hSw; (try dsimp only at hSw); go_simp; try with_reducible rfl)
              try simp only [Act.put, List.setIfInBounds_toArray, List.set_cons_zero, List.set_cons_succ]
              refine wpAnyL_take (i := 15) (v := ?v73) rfl (by kernel_rfl) (by kernel_rfl) (by kernel_rfl) (by kernel_rfl) (fun _ _ _ h => h) (Or.inl ⟨by rfl, ?y73⟩) (by assumption) ?r73
              case y73 => (intro w' hSw; (try dsimp only at hSw); go_simp; try with_reducible rfl)
              try simp only [Act.put, List.setIfInBounds_toArray, List.set_cons_zero, List.set_cons_succ]
              refine wpAnyL_done (by kernel_rfl) ?_ _
              have HQ3 : Hid (decide (0 ≤ s.dif t) = o.claB i (j + 1)) := by unfold Hid; rw [HQ2.out, Bool.false_or]
              have hB6 := hBd.trans (hb6.mono (by omega))
              have hz6 : w.heap.size + 1 ≤ w6.heap.size := by have := hb6.size; omega
              clear HC hSd hBd hzd hbd hb6 HQ2
              go_wp2
              go_roundw
              case rel => exact ⟨j + 1, _, _, by omega, by omega, by go_num, rfl, rfl, HP3.out.symm, HQ3, hS6.1, hB6, hz6⟩
              case measure => simp [intOf]; omega
            · have HQ3 : Hid (true = o.claB i (j + 1)) := by unfold Hid; rw [HQ2.out, Bool.true_or]
              clear HQ2
              refine wpAnyL_take (i := 0) (v := ?v74) rfl (by kernel_rfl) (by kernel_rfl) (by kernel_rfl) (by kernel_rfl) (fun _ _ _ h => h) (Or.inl ⟨by rfl, ?y74⟩) (by assumption) ?r74
              case y74 => (intro w' hSw; (try dsimp only at hSw); go_simp; try with_reducible rfl)
              try simp only [Act.put, List.setIfInBounds_toArray, List.set_cons_zero, List.set_cons_succ]
              refine wpAnyL_take (i := 1) (v := ?v75) rfl (by kernel_rfl) (by kernel_rfl) (by kernel_rfl) (by kernel_rfl) (fun _ _ _ h => h) (Or.inl ⟨by rfl, ?y75⟩) (by assumption) ?r75
              case y75 => (intro w' hSw; (try dsimp only at hSw); go_simp; try with_reducible rfl)
              try simp only [Act.put, List.setIfInBounds_toArray, List.set_cons_zero, List.set_cons_succ]
              refine wpAnyL_take (i := 2) (v := undef) rfl (by kernel_rfl) (by kernel_rfl) (by kernel_rfl) (by kernel_rfl) (fun _ _ _ h => h) (Or.inr ⟨by rfl, rfl⟩) (by assumption) ?_
              try simp only [Act.put, List.setIfInBounds_toArray, List.set_cons_zero, List.set_cons_succ]
              refine wpAnyL_take (i := 3) (v := undef) rfl (by kernel_rfl) (by kernel_rfl) (by kernel_rfl) (by kernel_rfl) (fun _ _ _ h => h) (Or.inr ⟨by rfl, rfl⟩) (by assumption) ?_
              try simp only [Act.put, List.setIfInBounds_toArray, List.set_cons_zero, List.set_cons_succ]
              refine wpAnyL_take (i := 4) (v := undef) rfl (by kernel_rfl) (by kernel_rfl) (by kernel_rfl) (by kernel_rfl) (fun _ _ _ h => h) (Or.inr ⟨by rfl, rfl⟩) (by assumption) ?_
              try simp only [Act.put, List.setIfInBounds_toArray, List.set_cons_zero, List.set_cons_succ]
              refine wpAnyL_take (i := 5) (v := undef) rfl (by kernel_rfl) (by kernel_rfl) (by kernel_rfl) (by kernel_rfl) (fun _ _ _ h => h) (Or.inr ⟨by rfl, rfl⟩) (by assumption) ?_
              try simp only [Act.put, List.setIfInBounds_toArray, List.set_cons_zero, List.set_cons_succ]
              refine wpAnyL_take (i := 6) (v := undef) rfl (by kernel_rfl) (by kernel_rfl) (by kernel_rfl) (by kernel_rfl) (fun _ _ _ h => h) (Or.inr ⟨by rfl, rfl⟩) (by assumption) ?_
              try simp only [Act.put, List.setIfInBounds_toArray, List.set_cons_zero, List.set_cons_succ]
              refine wpAnyL_take (i := 7) (v := undef) rfl (by kernel_rfl) (by kernel_rfl) (by kernel_rfl) (by kernel_rfl) (fun _ _ _ h => h) (Or.inr ⟨by rfl, rfl⟩) (by assumption) ?_
              try simp only [Act.put, List.setIfInBounds_toArray, List.set_cons_zero, List.set_cons_succ]
              refine wpAnyL_take (i := 8) (v := undef) rfl (by kernel_rfl) (by kernel_rfl) (by kernel_rfl) (by kernel_rfl) (fun _ _ _ h => h) (Or.inr ⟨by rfl, rfl⟩) (by assumption) ?_
              try simp only [Act.put, List.setIfInBounds_toArray, List.set_cons_zero, List.set_cons_succ]
              refine wpAnyL_take (i := 9) (v := undef) rfl (by kernel_rfl) (by kernel_rfl) (by kernel_rfl) (by kernel_rfl) (fun _ _ _ h => h) (Or.inr ⟨by rfl, rfl⟩) (by assumption) ?_
              try simp only [Act.put, List.setIfInBounds_toArray, List.set_cons_zero, List.set_cons_succ]
              refine wpAnyL_take (i := 10) (v := undef) rfl (by kernel_rfl) (by kernel_rfl) (by kernel_rfl) (by kernel_rfl) (fun _ _ _ h => h) (Or.inr ⟨by rfl, rfl⟩) (by assumption) ?_
              try simp only [Act.put, List.setIfInBounds_toArray, List.set_cons_zero, List.set_cons_succ]
              refine wpAnyL_take (i := 11) (v := undef) rfl (by kernel_rfl) (by kernel_rfl) (by kernel_rfl) (by kernel_rfl) (fun _ _ _ h => h) (Or.inr ⟨by rfl, rfl⟩) (by assumption) ?_
              try simp only [Act.put, List.setIfInBounds_toArray, List.set_cons_zero, List.set_cons_succ]
              refine wpAnyL_skip (i := 12) (by kernel_rfl) rfl rfl (by assumption) ?_
              try simp only [Act.put, List.setIfInBounds_toArray, List.set_cons_zero, List.set_cons_succ]
              refine wpAnyL_skip (i := 13) (by kernel_rfl) rfl rfl (by assumption) ?_
              try simp only [Act.put, List.setIfInBounds_toArray, List.set_cons_zero, List.set_cons_succ]
              refine wpAnyL_take (i := 14) (v := ?v76) rfl (by kernel_rfl) (by kernel_rfl) (by kernel_rfl) (by kernel_rfl) (fun _ _ _ h => h) (Or.inl ⟨by rfl, ?y76⟩) (by assumption) ?r76
              case y76 => (intro w' hSw; (try dsimp only at hSw); go_simp; try with_reducible rfl)
              try simp only [Act.put, List.setIfInBounds_toArray, List.set_cons_zero, List.set_cons_succ]
              refine wpAnyL_take (i := 15) (v := ?v77) rfl (by kernel_rfl) (by kernel_rfl) (by kernel_rfl) (by kernel_rfl) (fun _ _ _ h => h) (Or.inl ⟨by rfl, ?y77⟩) (by assumption) ?r77
              case y77 => (intro w' hSw; (try dsimp only at hSw); go_simp; try with_reducible rfl)
              try simp only [Act.put, List.setIfInBounds_toArray, List.set_cons_zero, List.set_cons_succ]
              refine wpAnyL_done (by kernel_rfl) ?_ _
              go_wp2
              go_roundw
              case rel => exact ⟨j + 1, _, _, by omega, by omega, by go_num, rfl, rfl, HP3.out.symm, HQ3, hSd.1, hBd, hzd⟩
              case measure => simp [intOf]; omega
          · have HP3 : Hid (o.preB i (j + 1) = true) := by unfold Hid; rw [HP2.out, Bool.true_or]
            clear HP2
            refine wpAnyL_take (i := 0) (v := ?v78) rfl (by kernel_rfl) (by kernel_rfl) (by kernel_rfl) (by kernel_rfl) (fun _ _ _ h => h) (Or.inl ⟨by rfl, ?y78⟩) (by assumption) ?r78
            case y78 => (intro w' hSw; (try dsimp only at hSw); go_simp; try with_reducible rfl)
            try simp only [Act.put, List.setIfInBounds_toArray, List.set_cons_zero, List.set_cons_succ]
            refine wpAnyL_take (i := 1) (v := ?v79) rfl (by kernel_rfl) (by kernel_rfl) (by kernel_rfl) (by kernel_rfl) (fun _ _ _ h => h) (Or.inl ⟨by rfl, ?y79⟩) (by assumption) ?r79
            case y79 => (intro w' hSw; (try dsimp only at hSw); go_simp; try with_reducible rfl)
            try simp only [Act.put, List.setIfInBounds_toArray, List.set_cons_zero, List.set_cons_succ]
            refine wpAnyL_take (i := 2) (v := undef) rfl (by kernel_rfl) (by kernel_rfl) (by kernel_rfl) (by kernel_rfl) (fun _ _ _ h => h) (Or.inr ⟨by rfl, rfl⟩) (by assumption) ?_
            try simp only [Act.put, List.setIfInBounds_toArray, List.set_cons_zero, List.set_cons_succ]
            refine wpAnyL_take (i := 3) (v := undef) rfl (by kernel_rfl) (by kernel_rfl) (by kernel_rfl) (by kernel_rfl) (fun _ _ _ h => h) (Or.inr ⟨by rfl, rfl⟩) (by assumption) ?_
            try simp only [Act.put, List.setIfInBounds_toArray, List.set_cons_zero, List.set_cons_succ]
            refine wpAnyL_take (i := 4) (v := undef) rfl (by kernel_rfl) (by kernel_rfl) (by kernel_rfl) (by kernel_rfl) (fun _ _ _ h => h) (Or.inr ⟨by rfl, rfl⟩) (by assumption) ?_
            try simp only [Act.put, List.setIfInBounds_toArray, List.set_cons_zero, List.set_cons_succ]
            refine wpAnyL_take (i := 5) (v := undef) rfl (by kernel_rfl) (by kernel_rfl) (by kernel_rfl) (by kernel_rfl) (fun _ _ _ h => h) (Or.inr ⟨by rfl, rfl⟩) (by assumption) ?_
            try simp only [Act.put, List.setIfInBounds_toArray, List.set_cons_zero, List.set_cons_succ]
            refine wpAnyL_take (i := 6) (v := undef) rfl (by kernel_rfl) (by kernel_rfl) (by kernel_rfl) (by kernel_rfl) (fun _ _ _ h => h) (Or.inr ⟨by rfl, rfl⟩) (by assumption) ?_
            try simp only [Act.put, List.setIfInBounds_toArray, List.set_cons_zero, List.set_cons_succ]
            refine wpAnyL_take (i := 7) (v := undef) rfl (by kernel_rfl) (by kernel_rfl) (by kernel_rfl) (by kernel_rfl) (fun _ _ _ h => h) (Or.inr ⟨by rfl, rfl⟩) (by assumption) ?_
            try simp only [Act.put, List.setIfInBounds_toArray, List.set_cons_zero, List.set_cons_succ]
            refine wpAnyL_take (i := 8) (v := undef) rfl (by kernel_rfl) (by kernel_rfl) (by kernel_rfl) (by kernel_rfl) (fun _ _ _ h => h) (Or.inr ⟨by rfl, rfl⟩) (by assumption) ?_
            try simp only [Act.put, List.setIfInBounds_toArray, List.set_cons_zero, List.set_cons_succ]
            refine wpAnyL_take (i := 9) (v := undef) rfl (by kernel_rfl) (by kernel_rfl) (by kernel_rfl) (by kernel_rfl) (fun _ _ _ h => h) (Or.inr ⟨by rfl, rfl⟩) (by assumption) ?_
            try simp only [Act.put, List.setIfInBounds_toArray, List.set_cons_zero, List.set_cons_succ]
            refine wpAnyL_take (i := 10) (v := undef) rfl (by kernel_rfl) (by kernel_rfl) (by kernel_rfl) (by kernel_rfl) (fun _ _ _ h => h) (Or.inr ⟨by rfl, rfl⟩) (by assumption) ?_
            try simp only [Act.put, List.setIfInBounds_toArray, List.set_cons_zero, List.set_cons_succ]
            refine wpAnyL_take (i := 11) (v := undef) rfl (by kernel_rfl) (by kernel_rfl) (by kernel_rfl) (by kernel_rfl) (fun _ _ _ h => h) (Or.inr ⟨by rfl, rfl⟩) (by assumption) ?_
            try simp only [Act.put, List.setIfInBounds_toArray, List.set_cons_zero, List.set_cons_succ]
            refine wpAnyL_take (i := 12) (v := undef) rfl (by kernel_rfl) (by kernel_rfl) (by kernel_rfl) (by kernel_rfl) (fun _ _ _ h => h) (Or.inr ⟨by rfl, rfl⟩) (by assumption) ?_
            try simp only [Act.put, List.setIfInBounds_toArray, List.set_cons_zero, List.set_cons_succ]
            refine wpAnyL_take (i := 13) (v := undef) rfl (by kernel_rfl) (by kernel_rfl) (by kernel_rfl) (by kernel_rfl) (fun _ _ _ h => h) (Or.inr ⟨by rfl, rfl⟩) (by assumption) ?_
            try simp only [Act.put, List.setIfInBounds_toArray, List.set_cons_zero, List.set_cons_succ]
            refine wpAnyL_skip (i := 14) (by kernel_rfl) rfl rfl (by assumption) ?_
            try simp only [Act.put, List.setIfInBounds_toArray, List.set_cons_zero, List.set_cons_succ]
            refine wpAnyL_take (i := 15) (v := ?v80) rfl (by kernel_rfl) (by kernel_rfl) (by kernel_rfl) (by kernel_rfl) (fun _ _ _ h => h) (Or.inl ⟨by rfl, ?y80⟩) (by assumption) ?r80
            case y80 => (intro w' hSw; (try dsimp only at hSw); go_simp; try with_reducible rfl)
            try simp only [Act.put, List.setIfInBounds_toArray, List.set_cons_zero, List.set_cons_succ]
            refine wpAnyL_take (i := 16) (v := ?v81) rfl (by kernel_rfl) (by kernel_rfl) (by kernel_rfl) (by kernel_rfl) (fun _ _ _ h => h) (Or.inl ⟨by rfl, ?y81⟩) (by assumption) ?r81
            case y81 => (intro w' hSw; (try dsimp only at hSw); go_simp; try with_reducible rfl)
            try simp only [Act.put, List.setIfInBounds_toArray, List.set_cons_zero, List.set_cons_succ]
            refine wpAnyL_done (by kernel_rfl) ?_ _
            have hS4 := hSd
            have hB4 := hBd
            have hz4 := hzd
            have hbl := hbd
            clear hSd hBd hzd hbd
            generalize w3 = w4 at *
            go_wp2
            refine wp_region_L (fun w' => O2 w' w.heap.size (some ⟨b1, o1, none⟩) c o ∧ Tc w' b1 (o1 + i * 2) a1 c1 a2 c2 s ∧ Tc w' b1 (o1 + j * 2) a3 c3 a4 c4 t) [0, 1, 2, 3, 4, 5, 6, 7, 8, 9, 10, 11, 13, 14, 15] (by kernel_rfl) ?_
            have hSd : O2 w4.drew w.heap.size (some ⟨b1, o1, none⟩) c o ∧ Tc w4.drew b1 (o1 + i * 2) a1 c1 a2 c2 s ∧ Tc w4.drew b1 (o1 + j * 2) a3 c3 a4 c4 t := ⟨hS4.1.below (Below.refl w4.heap.size w4).drew (by omega), hS4.2.1.below (Below.refl w4.heap.size w4).drew hbl, hS4.2.2.below (Below.refl w4.heap.size w4).drew hbl⟩
            have hBd := hB4.drew
            have H1 := Lib.hid (And.intro (H1.out.1.drew) (H1.out.2.drew))
            have H2 := Lib.hid (And.intro (H2.out.1.drew) (H2.out.2.drew))
            have hzd : w.heap.size + 1 ≤ w4.drew.heap.size := hz4
            have hbd : b1 < w4.drew.heap.size := hbl
            clear hS4 hB4 hz4 hbl
            generalize w4.drew = w5 at *
            rcases qb with _ | _
            · have HC := Lib.hid (difR_any H1.out.1 H1.out.2 H2.out.1 H2.out.2 hls)
              refine wpAnyL_take (i := 0) (v := ?v82) rfl (by kernel_rfl) (by kernel_rfl) (by kernel_rfl) (by kernel_rfl) (fun _ _ _ h => h) (Or.inl ⟨by rfl, ?y82⟩) (by assumption) ?r82
              case y82 => (intro w' hSw; (try dsimp only at hSw); go_simp; try with_reducible rfl)
              try simp only [Act.put, List.setIfInBounds_toArray, List.set_cons_zero, List.set_cons_succ]
              refine wpAnyL_take (i := 1) (v := ?v83) rfl (by kernel_rfl) (by kernel_rfl) (by kernel_rfl) (by kernel_rfl) (fun _ _ _ h => h) (Or.inl ⟨by rfl, ?y83⟩) (by assumption) ?r83
              case y83 => (intro w' hSw; (try dsimp only at hSw); go_simp; try with_reducible rfl)
              try simp only [Act.put, List.setIfInBounds_toArray, List.set_cons_zero, List.set_cons_succ]
              refine wpAnyL_take (i := 2) (v := ?v84) rfl (by kernel_rfl) (by kernel_rfl) (by kernel_rfl) (by kernel_rfl) (fun _ _ _ h => h) (Or.inl ⟨by rfl, ?y84⟩) (by assumption) ?r84
              case y84 => (intro w' hSw; (try dsimp only at hSw); go_simp; try with_reducible rfl)
              try simp only [Act.put, List.setIfInBounds_toArray, List.set_cons_zero, List.set_cons_succ]
              refine wpAnyL_take (i := 3) (v := ?v85) rfl (by kernel_rfl) (by kernel_rfl) (by kernel_rfl) (by kernel_rfl) (fun _ _ _ h => h) (Or.inl ⟨by rfl, ?y85⟩) (by assumption) ?r85
              case y85 => (intro w' hSw; (try dsimp only at hSw); go_simp; try with_reducible rfl)
              try simp only [Act.put, List.setIfInBounds_toArray, List.set_cons_zero, List.set_cons_succ]
              refine wpAnyL_take (i := 4) (v := ?v86) rfl (by kernel_rfl) (by kernel_rfl) (by kernel_rfl) (by kernel_rfl) (fun _ _ _ h => h) (Or.inl ⟨by rfl, ?y86⟩) (by assumption) ?r86
              case y86 => (intro w' hSw; (try dsimp only at hSw); go_simp; try with_reducible rfl)
              try simp only [Act.put, List.setIfInBounds_toArray, List.set_cons_zero, List.set_cons_succ]
              refine wpAnyL_take (i := 5) (v := ?v87) rfl (by kernel_rfl) (by kernel_rfl) (by kernel_rfl) (by kernel_rfl) (fun _ _ _ h => h) (Or.inl ⟨by rfl, ?y87⟩) (by assumption) ?r87
              case y87 => (intro w' hSw; (try dsimp only at hSw); go_simp; try with_reducible rfl)
              try simp only [Act.put, List.setIfInBounds_toArray, List.set_cons_zero, List.set_cons_succ]
              refine wpAnyL_take (i := 6) (v := ?v88) rfl (by kernel_rfl) (by kernel_rfl) (by kernel_rfl) (by kernel_rfl) (fun _ _ _ h => h) (Or.inl ⟨by rfl, ?y88⟩) (by assumption) ?r88
              case y88 => (intro w' hSw; (try dsimp only at hSw); go_simp; try with_reducible rfl)
              try simp only [Act.put, List.setIfInBounds_toArray, List.set_cons_zero, List.set_cons_succ]
              refine wpAnyL_take (i := 7) (v := ?v89) rfl (by kernel_rfl) (by kernel_rfl) (by kernel_rfl) (by kernel_rfl) (fun _ _ _ h => h) (Or.inl ⟨by rfl, ?y89⟩) (by assumption) ?r89
              case y89 => (intro w' hSw; (try dsimp only at hSw); go_simp; try with_reducible rfl)
              try simp only [Act.put, List.setIfInBounds_toArray, List.set_cons_zero, List.set_cons_succ]
              refine wpAnyL_take (i := 8) (v := ?v90) rfl (by kernel_rfl) (by kernel_rfl) (by kernel_rfl) (by kernel_rfl) (fun _ _ _ h => h) (Or.inl ⟨by rfl, ?y90⟩) (by assumption) ?r90
              case y90 => (intro w' hSw; (try dsimp only at hSw); go_simp; try with_reducible rfl)
              try simp only [Act.put, List.setIfInBounds_toArray, List.set_cons_zero, List.set_cons_succ]
              refine wpAnyL_take (i := 9) (v := ?v91) rfl (by kernel_rfl) (by kernel_rfl) (by kernel_rfl) (by kernel_rfl) (fun _ _ _ h => h) (Or.inl ⟨by rfl, ?y91⟩) (by assumption) ?r91
              case y91 => (intro w' hSw; (try dsimp only at hSw); go_simp; try with_reducible rfl)
              try simp only [Act.put, List.setIfInBounds_toArray, List.set_cons_zero, List.set_cons_succ]
              refine wpAnyL_take (i := 10) (v := ?v92) rfl (by kernel_rfl) (by kernel_rfl) (by kernel_rfl) (by kernel_rfl) (fun _ _ _ h => h) (Or.inl ⟨by rfl, ?y92⟩) (by assumption) ?r92
              case y92 => (intro w' hSw; (try dsimp only at hSw); go_simp; try with_reducible rfl)
              try simp only [Act.put, List.setIfInBounds_toArray, List.set_cons_zero, List.set_cons_succ]
              refine wpAnyL_take (i := 11) (v := ?v93) rfl (by kernel_rfl) (by kernel_rfl) (by kernel_rfl) (by kernel_rfl) (fun _ _ _ h => h) (Or.inl ⟨by rfl, ?y93⟩) (by assumption) ?r93
              case y93 => (intro w' hSw; (try dsimp only at hSw); go_simp; try with_reducible rfl)
              try simp only [Act.put, List.setIfInBounds_toArray, List.set_cons_zero, List.set_cons_succ]
              refine wpAnyL_one (i := 12) (by kernel_rfl) rfl rfl (fun K hK => ?_)
              go_simp
              refine (HC.out).mono ?_
              rintro e w6 ⟨rfl, hb6⟩
              have hS6 : O2 w6 w.heap.size (some ⟨b1, o1, none⟩) c o ∧ Tc w6 b1 (o1 + i * 2) a1 c1 a2 c2 s ∧ Tc w6 b1 (o1 + j * 2) a3 c3 a4 c4 t := ⟨hSd.1.below hb6 (by omega), hSd.2.1.below hb6 hbd, hSd.2.2.below hb6 hbd⟩
              refine hK _ _ (fun _ => hS6) ?_
              clear hK K
              refine wpAnyL_take (i := 13) (v := ?v94) rfl (by kernel_rfl) (by kernel_rfl) (by kernel_rfl) (by kernel_rfl) (fun _ _ _ h => h) (Or.inl ⟨by rfl, ?y94⟩) (by assumption) ?r94
              case y94 => (intro w' hSw; (try dsimp only at hSw); go_simp; try with_reducible rfl)
              try simp only [Act.put, List.setIfInBounds_toArray, List.set_cons_zero, List.set_cons_succ]
              refine wpAnyL_take (i := 14) (v := ?v95) rfl (by kernel_rfl) (by kernel_rfl) (by kernel_rfl) (by kernel_rfl) (fun _ _ _ h => h) (Or.inl ⟨by rfl, ?y95⟩) (by assumption) ?r95
              case y95 => (intro w' hSw; (try dsimp only at hSw); go_simp; try with_reducible rfl)
              try simp only [Act.put, List.setIfInBounds_toArray, List.set_cons_zero, List.set_cons_succ]
              refine wpAnyL_take (i := 15) (v := ?v96) rfl (by kernel_rfl) (by kernel_rfl) (by kernel_rfl) (by kernel_rfl) (fun _ _ _ h => h) (Or.inl ⟨by rfl, ?y96⟩) (by assumption) ?r96
              case y96 => (intro w' hSw; (try dsimp only at hSw); go_simp; try with_reducible rfl)
              try simp only [Act.put, List.setIfInBounds_toArray, List.set_cons_zero, List.set_cons_succ]
              refine wpAnyL_done (by kernel_rfl) ?_ _
              have HQ3 : Hid (decide (0 ≤ s.dif t) = o.claB i (j + 1)) := by unfold Hid; rw [HQ2.out, Bool.false_or]
              have hB6 := hBd.trans (hb6.mono (by omega))
              have hz6 : w.heap.size + 1 ≤ w6.heap.size := by have := hb6.size; omega
              clear HC hSd hBd hzd hbd hb6 HQ2
              go_wp2
              go_roundw
              case rel => exact ⟨j + 1, _, _, by omega, by omega, by go_num, rfl, rfl, HP3.out.symm, HQ3, hS6.1, hB6, hz6⟩
              case measure => simp [intOf]; omega
            · have HQ3 : Hid (true = o.claB i (j + 1)) := by unfold Hid; rw [HQ2.out, Bool.true_or]
              clear HQ2
              refine wpAnyL_take (i := 0) (v := ?v97) rfl (by kernel_rfl) (by kernel_rfl) (by kernel_rfl) (by kernel_rfl) (fun _ _ _ h => h) (Or.inl ⟨by rfl, ?y97⟩) (by assumption) ?r97
              case y97 => (intro w' hSw; (try dsimp only at hSw); go_simp; try with_reducible rfl)
              try simp only [Act.put, List.setIfInBounds_toArray, List.set_cons_zero, List.set_cons_succ]
              refine wpAnyL_take (i := 1) (v := ?v98) rfl (by kernel_rfl) (by kernel_rfl) (by kernel_rfl) (by kernel_rfl) (fun _ _ _ h => h) (Or.inl ⟨by rfl, ?y98⟩) (by assumption) ?r98
              case y98 => (intro w' hSw; (try dsimp only at hSw); go_simp; try with_reducible rfl)
              try simp only [Act.put, List.setIfInBounds_toArray, List.set_cons_zero, List.set_cons_succ]
              refine wpAnyL_take (i := 2) (v := undef) rfl (by kernel_rfl) (by kernel_rfl) (by kernel_rfl) (by kernel_rfl) (fun _ _ _ h => h) (Or.inr ⟨by rfl, rfl⟩) (by assumption) ?_
              try simp only [Act.put, List.setIfInBounds_toArray, List.set_cons_zero, List.set_cons_succ]
              refine wpAnyL_take (i := 3) (v := undef) rfl (by kernel_rfl) (by kernel_rfl) (by kernel_rfl) (by kernel_rfl) (fun _ _ _ h => h) (Or.inr ⟨by rfl, rfl⟩) (by assumption) ?_
              try simp only [Act.put, List.setIfInBounds_toArray, List.set_cons_zero, List.set_cons_succ]
              refine wpAnyL_take (i := 4) (v := undef) rfl (by kernel_rfl) (by kernel_rfl) (by kernel_rfl) (by kernel_rfl) (fun _ _ _ h => h) (Or.inr ⟨by rfl, rfl⟩) (by assumption) ?_
              try simp only [Act.put, List.setIfInBounds_toArray, List.set_cons_zero, List.set_cons_succ]
              refine wpAnyL_take (i := 5) (v := undef) rfl (by kernel_rfl) (by kernel_rfl) (by kernel_rfl) (by kernel_rfl) (fun _ _ _ h => h) (Or.inr ⟨by rfl, rfl⟩) (by assumption) ?_
              try simp only [Act.put, List.setIfInBounds_toArray, List.set_cons_zero, List.set_cons_succ]
              refine wpAnyL_take (i := 6) (v := undef) rfl (by kernel_rfl) (by kernel_rfl) (by kernel_rfl) (by kernel_rfl) (fun _ _ _ h => h) (Or.inr ⟨by rfl, rfl⟩) (by assumption) ?_
              try simp only [Act.put, List.setIfInBounds_toArray, List.set_cons_zero, List.set_cons_succ]
              refine wpAnyL_take (i := 7) (v := undef) rfl (by kernel_rfl) (by kernel_rfl) (by kernel_rfl) (by kernel_rfl) (fun _ _ _ h => h) (Or.inr ⟨by rfl, rfl⟩) (by assumption) ?_
              try simp only [Act.put, List.setIfInBounds_toArray, List.set_cons_zero, List.set_cons_succ]
              refine wpAnyL_take (i := 8) (v := undef) rfl (by kernel_rfl) (by kernel_rfl) (by kernel_rfl) (by kernel_rfl) (fun _ _ _ h => h) (Or.inr ⟨by rfl, rfl⟩) (by assumption) ?_
              try simp only [Act.put, List.setIfInBounds_toArray, List.set_cons_zero, List.set_cons_succ]
              refine wpAnyL_take (i := 9) (v := undef) rfl (by kernel_rfl) (by kernel_rfl) (by kernel_rfl) (by kernel_rfl) (fun _ _ _ h => h) (Or.inr ⟨by rfl, rfl⟩) (by assumption) ?_
              try simp only [Act.put, List.setIfInBounds_toArray, List.set_cons_zero, List.set_cons_succ]
              refine wpAnyL_take (i := 10) (v := undef) rfl (by kernel_rfl) (by kernel_rfl) (by kernel_rfl) (by kernel_rfl) (fun _ _ _ h => h) (Or.inr ⟨by rfl, rfl⟩) (by assumption) ?_
              try simp only [Act.put, List.setIfInBounds_toArray, List.set_cons_zero, List.set_cons_succ]
              refine wpAnyL_take (i := 11) (v := undef) rfl (by kernel_rfl) (by kernel_rfl) (by kernel_rfl) (by kernel_rfl) (fun _ _ _ h => h) (Or.inr ⟨by rfl, rfl⟩) (by assumption) ?_
              try simp only [Act.put, List.setIfInBounds_toArray, List.set_cons_zero, List.set_cons_succ]
              refine wpAnyL_skip (i := 12) (by kernel_rfl) rfl rfl (by assumption) ?_
              try simp only [Act.put, List.setIfInBounds_toArray, List.set_cons_zero, List.set_cons_succ]
              refine wpAnyL_skip (i := 13) (by kernel_rfl) rfl rfl (by assumption) ?_
              try simp only [Act.put, List.setIfInBounds_toArray, List.set_cons_zero, List.set_cons_succ]
              refine wpAnyL_take (i := 14) (v := ?v99) rfl (by kernel_rfl) (by kernel_rfl) (by kernel_rfl) (by kernel_rfl) (fun _ _ _ h => h) (Or.inl ⟨by rfl, ?y99⟩) (by assumption) ?r99
              case y99 => (intro w' hSw; (try dsimp only at hSw); go_simp; try with_reducible rfl)
              try simp only [Act.put, List.setIfInBounds_toArray, List.set_cons_zero, List.set_cons_succ]
              refine wpAnyL_take (i := 15) (v := ?v100) rfl (by kernel_rfl) (by kernel_rfl) (by kernel_rfl) (by kernel_rfl) (fun _ _ _ h => h) (Or.inl ⟨by rfl, ?y100⟩) (by assumption) ?r100
              case y100 => (intro w' hSw; (try dsimp only at hSw); go_simp; try with_reducible rfl)
              try simp only [Act.put, List.setIfInBounds_toArray, List.set_cons_zero, List.set_cons_succ]
              refine wpAnyL_done (by kernel_rfl) ?_ _
              go_wp2
              go_roundw
              case rel => exact ⟨j + 1, _, _, by omega, by omega, by go_num, rfl, rfl, HP3.out.symm, HQ3, hSd.1, hBd, hzd⟩
              case measure => simp [intOf]; omega
        · have ej : j = o.traces.length := by omega
          have HP3 : Hid (pb = o.preB i o.traces.length) := by unfold Hid; rw [hP.out, ej]
          have HQ3 : Hid (qb = o.claB i o.traces.length) := by unfold Hid; rw [hQ.out, ej]
          clear hP hQ ej
          cases pb with
          | true =>
            have HF : Hid (o.apsErr o.traces.length = 7) := by
              have h7 : o.apErr i = 7 := by unfold Ob.apErr; rw [← HP3.out, if_pos rfl]
              have h8 : o.apsErr (i + 1) = 7 := by show (if o.apsErr i = 0 then o.apErr i else o.apsErr i) = 7; rw [hE.out, if_pos rfl, h7]
              unfold Hid; rw [Ob.apsErr_stop (k := i + 1) (by omega) (by rw [h8]; decide), h8]
            go_wp2
            go_ret
            exact ⟨ret_ij HF.out.symm, hB⟩
          | false =>
            cases qb with
            | true =>
              have HF : Hid (o.apsErr o.traces.length = 13) := by
                have h7 : o.apErr i = 13 := by unfold Ob.apErr; rw [← HP3.out, ← HQ3.out, if_neg (by decide), if_pos rfl]
                have h8 : o.apsErr (i + 1) = 13 := by show (if o.apsErr i = 0 then o.apErr i else o.apsErr i) = 13; rw [hE.out, if_pos rfl, h7]
                unfold Hid; rw [Ob.apsErr_stop (k := i + 1) (by omega) (by rw [h8]; decide), h8]
              go_wp2
              go_ret
              exact ⟨ret_ij HF.out.symm, hB⟩
            | false =>
              have hE2 : Hid (o.apsErr (i + 1) = 0) := by
                have h7 : o.apErr i = 0 := by unfold Ob.apErr; rw [← HP3.out, ← HQ3.out, if_neg (by decide), if_neg (by decide)]
                unfold Hid; show (if o.apsErr i = 0 then o.apErr i else o.apsErr i) = 0; rw [hE.out, if_pos rfl, h7]
              go_wp2
              go_roundw
              case rel => exact ⟨i + 1, by omega, by go_num, hE2, hx, hB, hz⟩
              case measure => simp [intOf]; omega
    · have HF : Hid (o.apsErr o.traces.length = 0) := by
        have e : i = o.traces.length := by omega
        unfold Hid; rw [← e]; exact hE.out
      go_wp2
      go_ret
      exact ⟨ret_ij HF.out.symm, hB⟩

set_option maxRecDepth 100000 in
set_option maxHeartbeats 4000000 in
/-- The error of observations. -/
theorem validO_any {o : Ob} (ho : Os M w a c o) :
    Calls Try.prog 9 #[obV o a c] w fun e w' => e = .returned (.int .i64 o.err) ∧ Below w.heap.size w w' := by
  have hol := ho.traces.le
  have hB0 := (Below.refl w.heap.size w).alloc (Nat.le_refl _) (obO o a c)
  have HO := Lib.hid ho
  have hx0 : O2 (w.alloc (obO o a c)) w.heap.size a c o := o2_new w
  have hz0 : w.heap.size + 1 ≤ (w.alloc (obO o a c)).heap.size := by simp
  clear ho
  rcases Ob.err_cases (o := o) with ⟨h1, he⟩ | ⟨h1, h2, he⟩ | ⟨h1, h2, h3, he⟩ | ⟨h1, h2, h3, he⟩
  iterate 3
    · have HF := Lib.hid he
      clear he
      go_enter Try.func9, Try.ntmps9
      go_wp2
      go_ret
      exact ⟨ret_ij HF.out.symm, hB0⟩
  have HF := Lib.hid he
  clear he
  go_enter Try.func9, Try.ntmps9
  go_wp2
  generalize w.alloc (obO o a c) = w0 at *
  go_loopw [3] (fun i wr => ∃ k : Nat, k ≤ o.traces.length ∧ i = .int .i64 k ∧ Hid (o.atsErr k = 0) ∧ O2 wr w.heap.size a c o ∧ Below w.heap.size w wr ∧ w.heap.size + 1 ≤ wr.heap.size) (fun i _ => o.traces.length - (intOf i).toNat)
  case atStart => exact ⟨0, by omega, rfl, rfl, hx0, hB0, hz0⟩
  case round =>
    clear hx0 hB0 hz0
    obtain ⟨i, hi, rfl, hE, hx, hB, hz⟩ := hrel
    obtain ⟨w1, rfl⟩ : ∃ w1 : World, w1 = wr := ⟨_, rfl⟩
    by_cases hlt : i < o.traces.length
    · obtain ⟨b1, o1, a1, c1, a2, c2, s, rfl, hc1, hc2, hs, hs1, hs2⟩ := (HO.out.below hB).traces.at_tr hlt
      have hl1 := hs1.le
      have hl2 := hs2.le
      have hbA := (Below.refl w1.heap.size w1).alloc (Nat.le_refl _) (trO s a1 c1 a2 c2)
      have hBA := hB.trans (hbA.mono (by omega))
      have hxA := hx.below hbA (by omega)
      have htA : T2 (w1.alloc (trO s a1 c1 a2 c2)) w1.heap.size a1 c1 a2 c2 s := t2_new w1
      have hzA : w1.heap.size + 1 ≤ (w1.alloc (trO s a1 c1 a2 c2)).heap.size := by simp
      have HC := Lib.hid (checkR1_any (hs1.alloc (trO s a1 c1 a2 c2)) o.inputs)
      have HD := Lib.hid (properR_any o.inputs (hs1.alloc (trO s a1 c1 a2 c2)) (hs2.alloc (trO s a1 c1 a2 c2)))
      have H1 := Lib.hid (hs1.alloc (trO s a1 c1 a2 c2))
      clear hs1 hs2 hB
      have hSn : Hid (o.atsErr (i + 1) = o.atErr i) := by unfold Hid; show (if o.atsErr i = 0 then o.atErr i else o.atsErr i) = o.atErr i; rw [hE.out, if_pos rfl]
      have hst : ∀ e, e ≠ 0 → o.atErr i = e → Hid (o.err = e) := fun e h h2 => by
        have h3 : o.atsErr o.traces.length = e := by rw [Ob.atsErr_stop (k := i + 1) (by omega) (by rw [hSn.out, h2]; exact h), hSn.out, h2]
        unfold Hid; rw [HF.out, if_pos (by rw [h3]; exact h), h3]
      have hat : Hid (o.atErr i = if wErr s.inn o.inputs ≠ 0 then wErr s.inn o.inputs else if s.inn = [] then 19 else if s.err o.inputs ≠ 0 then s.err o.inputs else if 0 < i ∧ 0 ≤ cmpW (o.tr (i - 1)).inn s.inn then 10 else 0) := by
        unfold Hid Ob.atErr; rw [Ob.tr_of hs.out]
      have HST := Lib.hid hst
      clear hst HF
      by_cases hw : wErr s.inn o.inputs = 0
      · have hwb : (wErr s.inn o.inputs != 0) = false := by simp [hw]
        have hat : Hid (o.atErr i = if s.inn = [] then 19 else if s.err o.inputs ≠ 0 then s.err o.inputs else if 0 < i ∧ 0 ≤ cmpW (o.tr (i - 1)).inn s.inn then 10 else 0) := by
          have := hat.out; rw [if_neg (by simp [hw])] at this; exact this
        clear hw
        by_cases hem : s.inn = []
        · have heb : (((s.inn.length : Nat) : Int) == 0) = true := by simp [hem]
          have HF := HST.out 19 (by decide) (by rw [hat.out, if_pos hem])
          clear hem hat HST
          go_wp2_with fail
          generalize w1.alloc (trO s a1 c1 a2 c2) = w2 at *
          refine (HC.out).mono ?_
          rintro e w3 ⟨rfl, hw3⟩
          obtain rfl : w2 = w3 := hw3.symm
          clear HC
          go_wp2
          go_ret
          exact ⟨ret_ij HF.out.symm, hBA⟩
        · have heb : (((s.inn.length : Nat) : Int) == 0) = false := by simp [hem]
          have hat : Hid (o.atErr i = if s.err o.inputs ≠ 0 then s.err o.inputs else if 0 < i ∧ 0 ≤ cmpW (o.tr (i - 1)).inn s.inn then 10 else 0) := by
            have := hat.out; rw [if_neg hem] at this; exact this
          clear hem
          go_wp2_with fail
          generalize w1.alloc (trO s a1 c1 a2 c2) = w2 at *
          refine (HC.out).mono ?_
          rintro e w3 ⟨rfl, hw3⟩
          obtain rfl : w2 = w3 := hw3.symm
          clear HC
          go_wp2_with fail
          refine (HD.out).mono ?_
          rintro e w3 ⟨rfl, hb3⟩
          have hx3 := hxA.below hb3 (by omega)
          have ht3 := htA.below hb3 (by omega)
          have hB3 := hBA.trans (hb3.mono (by omega))
          have hz3 : w1.heap.size + 1 ≤ w3.heap.size := by have := hb3.size; omega
          have H1 := Lib.hid (H1.out.below hb3)
          clear HD hxA htA hBA hzA hb3
          by_cases her : s.err o.inputs = 0
          · have hrb : (s.err o.inputs != 0) = false := by simp [her]
            have hat : Hid (o.atErr i = if 0 < i ∧ 0 ≤ cmpW (o.tr (i - 1)).inn s.inn then 10 else 0) := by
              have := hat.out; rw [if_neg (by simp [her])] at this; exact this
            clear her
            go_wp2
            by_cases hi0 : 0 < i
            · obtain ⟨b3, o3, a3, c3, a4, c4, t, he3, hc3, hc4, ht, ht1, ht2⟩ := (HO.out.below hB3).traces.at_tr (j := i - 1) (by omega)
              obtain ⟨rfl, rfl⟩ : b1 = b3 ∧ o1 = o3 := by simpa using he3
              have hil : i - 1 < o.traces.length := by omega
              have hbl := lt_of_cell hc3
              have hi1 : (((i : Nat) : Int) - 1) = ((i - 1 : Nat) : Int) := by omega
              have hwr : IntKind.i64.wrap ((i - 1 : Nat) : Int) = ((i - 1 : Nat) : Int) := IntWalk.i64_in _ (by omega)
              have hd0 : decide (0 < i) = true := by simp [hi0]
              refine wp_region_L (fun w' => O2 w' w.heap.size (some ⟨b1, o1, none⟩) c o ∧ Tc w' b1 (o1 + (i - 1) * 2) a3 c3 a4 c4 t ∧ T2 w' w1.heap.size a1 c1 a2 c2 s) [0, 1, 2, 3, 4, 5, 6, 7, 8, 9, 10, 11, 13, 14] (by kernel_rfl) ?_
              have hSd : O2 w3.drew w.heap.size (some ⟨b1, o1, none⟩) c o ∧ Tc w3.drew b1 (o1 + (i - 1) * 2) a3 c3 a4 c4 t ∧ T2 w3.drew w1.heap.size a1 c1 a2 c2 s := ⟨hx3.below (Below.refl w3.heap.size w3).drew (by omega), Tc.below ⟨hc3, hc4⟩ (Below.refl w3.heap.size w3).drew hbl, ht3.below (Below.refl w3.heap.size w3).drew (by omega)⟩
              have HC := Lib.hid (cmpR_any ((ht1.anti (M' := fun _ => False) fun _ _ h => h.elim).drew) ((H1.out.anti (M' := fun _ => False) fun _ _ h => h.elim).drew))
              have hat : Hid (o.atErr i = if 0 ≤ cmpW t.inn s.inn then 10 else 0) := by
                have := hat.out; rw [Ob.tr_of ht.out] at this; simp only [hi0, true_and] at this; exact this
              have hBd := hB3.drew
              have hzd : w1.heap.size + 1 ≤ w3.drew.heap.size := hz3
              have hbd : b1 < w3.drew.heap.size := hbl
              clear hx3 ht3 hB3 hz3 hbl hc3 hc4 ht1 ht2 he3
              generalize w3.drew = w4 at *
              refine wpAnyL_take (i := 0) (v := ?v101) rfl (by kernel_rfl) (by kernel_rfl) (by kernel_rfl) (by kernel_rfl) (fun _ _ _ h => h) (Or.inl ⟨by rfl, ?y101⟩) (by assumption) ?r101
              case y101 => (intro w' hSw; (try dsimp only at hSw); go_simp; try with_reducible rfl)
              try simp only [Act.put, List.setIfInBounds_toArray, List.set_cons_zero, List.set_cons_succ]
              refine wpAnyL_take (i := 1) (v := ?v102) rfl (by kernel_rfl) (by kernel_rfl) (by kernel_rfl) (by kernel_rfl) (fun _ _ _ h => h) (Or.inl ⟨by rfl, ?y102⟩) (by assumption) ?r102
              case y102 => (intro w' hSw; (try dsimp only at hSw); go_simp; try with_reducible rfl)
              try simp only [Act.put, List.setIfInBounds_toArray, List.set_cons_zero, List.set_cons_succ]
              refine wpAnyL_take (i := 2) (v := ?v103) rfl (by kernel_rfl) (by kernel_rfl) (by kernel_rfl) (by kernel_rfl) (fun _ _ _ h => h) (Or.inl ⟨by rfl, ?y103⟩) (by assumption) ?r103
              case y103 => (intro w' hSw; (try dsimp only at hSw); go_simp; try with_reducible rfl)
              try simp only [Act.put, List.setIfInBounds_toArray, List.set_cons_zero, List.set_cons_succ]
              refine wpAnyL_take (i := 3) (v := ?v104) rfl (by kernel_rfl) (by kernel_rfl) (by kernel_rfl) (by kernel_rfl) (fun _ _ _ h => h) (Or.inl ⟨by rfl, ?y104⟩) (by assumption) ?r104
              case y104 => (intro w' hSw; (try dsimp only at hSw); go_simp; try with_reducible rfl)
              try simp only [Act.put, List.setIfInBounds_toArray, List.set_cons_zero, List.set_cons_succ]
              refine wpAnyL_take (i := 4) (v := ?v105) rfl (by kernel_rfl) (by kernel_rfl) (by kernel_rfl) (by kernel_rfl) (fun _ _ _ h => h) (Or.inl ⟨by rfl, ?y105⟩) (by assumption) ?r105
              case y105 => (intro w' hSw; (try dsimp only at hSw); go_simp; try with_reducible rfl)
              try simp only [Act.put, List.setIfInBounds_toArray, List.set_cons_zero, List.set_cons_succ]
              refine wpAnyL_take (i := 5) (v := ?v106) rfl (by kernel_rfl) (by kernel_rfl) (by kernel_rfl) (by kernel_rfl) (fun _ _ _ h => h) (Or.inl ⟨by rfl, ?y106⟩) (by assumption) ?r106
              case y106 => (intro w' hSw; (try dsimp only at hSw); go_simp; try with_reducible rfl)
              try simp only [Act.put, List.setIfInBounds_toArray, List.set_cons_zero, List.set_cons_succ]
              refine wpAnyL_take (i := 6) (v := ?v107) rfl (by kernel_rfl) (by kernel_rfl) (by kernel_rfl) (by kernel_rfl) (fun _ _ _ h => h) (Or.inl ⟨by rfl, ?y107⟩) (by assumption) ?r107
              case y107 => (intro w' hSw; (try dsimp only at hSw); go_simp; try with_reducible rfl)
              try simp only [Act.put, List.setIfInBounds_toArray, List.set_cons_zero, List.set_cons_succ]
              refine wpAnyL_take (i := 7) (v := ?v108) rfl (by kernel_rfl) (by kernel_rfl) (by kernel_rfl) (by kernel_rfl) (fun _ _ _ h => h) (Or.inl ⟨by rfl, ?y108⟩) (by assumption) ?r108
              case y108 => (intro w' hSw; (try dsimp only at hSw); go_simp; try with_reducible rfl)
              try simp only [Act.put, List.setIfInBounds_toArray, List.set_cons_zero, List.set_cons_succ]
              refine wpAnyL_take (i := 8) (v := ?v109) rfl (by kernel_rfl) (by kernel_rfl) (by kernel_rfl) (by kernel_rfl) (fun _ _ _ h => h) (Or.inl ⟨by rfl, ?y109⟩) (by assumption) ?r109
              case y109 => (intro w' hSw; (try dsimp only at hSw); go_simp; try with_reducible rfl)
              try simp only [Act.put, List.setIfInBounds_toArray, List.set_cons_zero, List.set_cons_succ]
              refine wpAnyL_take (i := 9) (v := ?v110) rfl (by kernel_rfl) (by kernel_rfl) (by kernel_rfl) (by kernel_rfl) (fun _ _ _ h => h) (Or.inl ⟨by rfl, ?y110⟩) (by assumption) ?r110
              case y110 => (intro w' hSw; (try dsimp only at hSw); go_simp; try with_reducible rfl)
              try simp only [Act.put, List.setIfInBounds_toArray, List.set_cons_zero, List.set_cons_succ]
              refine wpAnyL_take (i := 10) (v := ?v111) rfl (by kernel_rfl) (by kernel_rfl) (by kernel_rfl) (by kernel_rfl) (fun _ _ _ h => h) (Or.inl ⟨by rfl, ?y111⟩) (by assumption) ?r111
              case y111 => (intro w' hSw; (try dsimp only at hSw); go_simp; try with_reducible rfl)
              try simp only [Act.put, List.setIfInBounds_toArray, List.set_cons_zero, List.set_cons_succ]
              refine wpAnyL_take (i := 11) (v := ?v112) rfl (by kernel_rfl) (by kernel_rfl) (by kernel_rfl) (by kernel_rfl) (fun _ _ _ h => h) (Or.inl ⟨by rfl, ?y112⟩) (by assumption) ?r112
              case y112 => (intro w' hSw; (try dsimp only at hSw); go_simp; try with_reducible rfl)
              try simp only [Act.put, List.setIfInBounds_toArray, List.set_cons_zero, List.set_cons_succ]
              refine wpAnyL_one (i := 12) (by kernel_rfl) rfl rfl (fun K hK => ?_)
              go_simp
              refine (HC.out).mono ?_
              rintro e w5 ⟨rfl, hD5⟩
              have hb5 := blw hD5 w4.heap.size
              have hS5 : O2 w5 w.heap.size (some ⟨b1, o1, none⟩) c o ∧ Tc w5 b1 (o1 + (i - 1) * 2) a3 c3 a4 c4 t ∧ T2 w5 w1.heap.size a1 c1 a2 c2 s := ⟨hSd.1.below hb5 (by omega), hSd.2.1.below hb5 hbd, hSd.2.2.below hb5 (by omega)⟩
              refine hK _ _ (fun _ => hS5) ?_
              clear hK K
              refine wpAnyL_take (i := 13) (v := ?v113) rfl (by kernel_rfl) (by kernel_rfl) (by kernel_rfl) (by kernel_rfl) (fun _ _ _ h => h) (Or.inl ⟨by rfl, ?y113⟩) (by assumption) ?r113
              case y113 => (intro w' hSw; (try dsimp only at hSw); go_simp; try with_reducible rfl)
              try simp only [Act.put, List.setIfInBounds_toArray, List.set_cons_zero, List.set_cons_succ]
              refine wpAnyL_take (i := 14) (v := ?v114) rfl (by kernel_rfl) (by kernel_rfl) (by kernel_rfl) (by kernel_rfl) (fun _ _ _ h => h) (Or.inl ⟨by rfl, ?y114⟩) (by assumption) ?r114
              case y114 => (intro w' hSw; (try dsimp only at hSw); go_simp; try with_reducible rfl)
              try simp only [Act.put, List.setIfInBounds_toArray, List.set_cons_zero, List.set_cons_succ]
              refine wpAnyL_done (by kernel_rfl) ?_ _
              have hB5 := hBd.trans (hb5.mono (by omega))
              have hz5 : w.heap.size + 1 ≤ w5.heap.size := by have := hb5.size; omega
              clear HC hSd hBd hzd hbd hb5 hD5
              by_cases hcm : 0 ≤ cmpW t.inn s.inn
              · have hcb : decide (0 ≤ cmpW t.inn s.inn) = true := by simp [hcm]
                have HF := HST.out 10 (by decide) (by rw [hat.out, if_pos hcm])
                clear hat HST
                go_wp2
                go_ret
                exact ⟨ret_ij HF.out.symm, hB5⟩
              · have hcb : decide (0 ≤ cmpW t.inn s.inn) = false := by simpa using hcm
                have hE2 : Hid (o.atsErr (i + 1) = 0) := by unfold Hid; rw [hSn.out, hat.out, if_neg hcm]
                have hcn : cmpW t.inn s.inn < 0 := by omega
                clear hcm hat HST hE hSn
                go_wp2
                go_roundw
                case rel => exact ⟨i + 1, by omega, by go_num, hE2, hS5.1, hB5, hz5⟩
                case measure => simp [intOf]; omega
            · have hd0 : decide (0 < i) = false := by simpa using hi0
              obtain rfl : i = 0 := by omega
              have hE2 : Hid (o.atsErr (0 + 1) = 0) := by unfold Hid; rw [hSn.out, hat.out, if_neg (by omega)]
              refine wp_region_L (fun w' => O2 w' w.heap.size (some ⟨b1, o1, none⟩) c o ∧ T2 w' w1.heap.size a1 c1 a2 c2 s) [0, 1, 2, 3, 4, 5, 6, 7, 8, 9, 10, 11, 12, 13, 14] (by kernel_rfl) ?_
              have hSd : O2 w3.drew w.heap.size (some ⟨b1, o1, none⟩) c o ∧ T2 w3.drew w1.heap.size a1 c1 a2 c2 s := ⟨hx3.below (Below.refl w3.heap.size w3).drew (by omega), ht3.below (Below.refl w3.heap.size w3).drew (by omega)⟩
              have hBd := hB3.drew
              have hzd : w.heap.size + 1 ≤ w3.drew.heap.size := by show _ ≤ w3.heap.size; omega
              clear hx3 ht3 hB3 hz3 hSn hat HST hE
              generalize w3.drew = w4 at *
              refine wpAnyL_take (i := 0) (v := ?v115) rfl (by kernel_rfl) (by kernel_rfl) (by kernel_rfl) (by kernel_rfl) (fun _ _ _ h => h) (Or.inl ⟨by rfl, ?y115⟩) (by assumption) ?r115
              case y115 => (intro w' hSw; (try dsimp only at hSw); go_simp; try with_reducible rfl)
              try simp only [Act.put, List.setIfInBounds_toArray, List.set_cons_zero, List.set_cons_succ]
              refine wpAnyL_take (i := 1) (v := ?v116) rfl (by kernel_rfl) (by kernel_rfl) (by kernel_rfl) (by kernel_rfl) (fun _ _ _ h => h) (Or.inl ⟨by rfl, ?y116⟩) (by assumption) ?r116
              case y116 => (intro w' hSw; (try dsimp only at hSw); go_simp; try with_reducible rfl)
              try simp only [Act.put, List.setIfInBounds_toArray, List.set_cons_zero, List.set_cons_succ]
              refine wpAnyL_take (i := 2) (v := ?v117) rfl (by kernel_rfl) (by kernel_rfl) (by kernel_rfl) (by kernel_rfl) (fun _ _ _ h => h) (Or.inl ⟨by rfl, ?y117⟩) (by assumption) ?r117
              case y117 => (intro w' hSw; (try dsimp only at hSw); go_simp; try with_reducible rfl)
              try simp only [Act.put, List.setIfInBounds_toArray, List.set_cons_zero, List.set_cons_succ]
              refine wpAnyL_take (i := 3) (v := undef) rfl (by kernel_rfl) (by kernel_rfl) (by kernel_rfl) (by kernel_rfl) (fun _ _ _ h => h) (Or.inr ⟨by rfl, rfl⟩) (by assumption) ?_
              try simp only [Act.put, List.setIfInBounds_toArray, List.set_cons_zero, List.set_cons_succ]
              refine wpAnyL_take (i := 4) (v := undef) rfl (by kernel_rfl) (by kernel_rfl) (by kernel_rfl) (by kernel_rfl) (fun _ _ _ h => h) (Or.inr ⟨by rfl, rfl⟩) (by assumption) ?_
              try simp only [Act.put, List.setIfInBounds_toArray, List.set_cons_zero, List.set_cons_succ]
              refine wpAnyL_take (i := 5) (v := undef) rfl (by kernel_rfl) (by kernel_rfl) (by kernel_rfl) (by kernel_rfl) (fun _ _ _ h => h) (Or.inr ⟨by rfl, rfl⟩) (by assumption) ?_
              try simp only [Act.put, List.setIfInBounds_toArray, List.set_cons_zero, List.set_cons_succ]
              refine wpAnyL_take (i := 6) (v := undef) rfl (by kernel_rfl) (by kernel_rfl) (by kernel_rfl) (by kernel_rfl) (fun _ _ _ h => h) (Or.inr ⟨by rfl, rfl⟩) (by assumption) ?_
              try simp only [Act.put, List.setIfInBounds_toArray, List.set_cons_zero, List.set_cons_succ]
              refine wpAnyL_take (i := 7) (v := undef) rfl (by kernel_rfl) (by kernel_rfl) (by kernel_rfl) (by kernel_rfl) (fun _ _ _ h => h) (Or.inr ⟨by rfl, rfl⟩) (by assumption) ?_
              try simp only [Act.put, List.setIfInBounds_toArray, List.set_cons_zero, List.set_cons_succ]
              refine wpAnyL_take (i := 8) (v := undef) rfl (by kernel_rfl) (by kernel_rfl) (by kernel_rfl) (by kernel_rfl) (fun _ _ _ h => h) (Or.inr ⟨by rfl, rfl⟩) (by assumption) ?_
              try simp only [Act.put, List.setIfInBounds_toArray, List.set_cons_zero, List.set_cons_succ]
              refine wpAnyL_take (i := 9) (v := undef) rfl (by kernel_rfl) (by kernel_rfl) (by kernel_rfl) (by kernel_rfl) (fun _ _ _ h => h) (Or.inr ⟨by rfl, rfl⟩) (by assumption) ?_
              try simp only [Act.put, List.setIfInBounds_toArray, List.set_cons_zero, List.set_cons_succ]
              refine wpAnyL_skip (i := 10) (by kernel_rfl) rfl rfl (by assumption) ?_
              try simp only [Act.put, List.setIfInBounds_toArray, List.set_cons_zero, List.set_cons_succ]
              refine wpAnyL_skip (i := 11) (by kernel_rfl) rfl rfl (by assumption) ?_
              try simp only [Act.put, List.setIfInBounds_toArray, List.set_cons_zero, List.set_cons_succ]
              refine wpAnyL_skip (i := 12) (by kernel_rfl) rfl rfl (by assumption) ?_
              try simp only [Act.put, List.setIfInBounds_toArray, List.set_cons_zero, List.set_cons_succ]
              refine wpAnyL_skip (i := 13) (by kernel_rfl) rfl rfl (by assumption) ?_
              try simp only [Act.put, List.setIfInBounds_toArray, List.set_cons_zero, List.set_cons_succ]
              refine wpAnyL_take (i := 14) (v := ?v118) rfl (by kernel_rfl) (by kernel_rfl) (by kernel_rfl) (by kernel_rfl) (fun _ _ _ h => h) (Or.inl ⟨by rfl, ?y118⟩) (by assumption) ?r118
              case y118 => (intro w' hSw; (try dsimp only at hSw); go_simp; try with_reducible rfl)
              try simp only [Act.put, List.setIfInBounds_toArray, List.set_cons_zero, List.set_cons_succ]
              refine wpAnyL_done (by kernel_rfl) ?_ _
              go_wp2
              go_roundw
              case rel => exact ⟨0 + 1, by omega, by go_num, hE2, hSd.1, hBd, hzd⟩
              case measure => simp [intOf]; omega
          · have hrb : (s.err o.inputs != 0) = true := by simp [her]
            have HF := HST.out _ her (by rw [hat.out, if_pos her])
            clear her hat HST
            go_wp2
            go_ret
            exact ⟨ret_ij HF.out.symm, hB3⟩
      · have hwb : (wErr s.inn o.inputs != 0) = true := by simp [hw]
        have HF := HST.out _ hw (by rw [hat.out, if_pos hw])
        clear hw hat HST
        go_wp2_with fail
        generalize w1.alloc (trO s a1 c1 a2 c2) = w2 at *
        refine (HC.out).mono ?_
        rintro e w3 ⟨rfl, hw3⟩
        obtain rfl : w2 = w3 := hw3.symm
        clear HC
        go_wp2
        go_ret
        exact ⟨ret_ij HF.out.symm, hBA⟩
    · have e : i = o.traces.length := by omega
      have hz0 : Hid (o.atsErr o.traces.length = 0) := by unfold Hid; rw [← e]; exact hE.out
      have HL : Hid o.lens := Ob.goods_lens (Ob.goods_all hz0.out)
      have HC := Lib.hid (apartR_any (HO.out.below hB) HL)
      have HF : Hid (o.err = o.apsErr o.traces.length) := by unfold Hid; rw [HF.out, if_neg (by simp [hz0.out])]
      clear e
      go_wp2_with fail
      refine (HC.out).mono ?_
      rintro e w3 ⟨rfl, hb3⟩
      have hBf := hB.trans (hb3.mono (by omega))
      go_wp2
      go_ret
      exact ⟨ret_ij HF.out.symm, hBf⟩
end
end Go.Proofs.Ytlgdijgfphedpaa
