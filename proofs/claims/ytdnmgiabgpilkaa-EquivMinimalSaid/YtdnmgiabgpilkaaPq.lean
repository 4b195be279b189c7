/- A queue of pairs of states with words, that a call owns; what lies below N may be written besides. No condition. -/
import Derived.Test.YtdnmgiabgpilkaaPush
import Derived.Test.YtdnmgiabgpilkaaPl9
namespace Go.Proofs.Ytdnmgiabgpilkaa
open Go.RowKit

instance : GR Pl where
  sz := 3
  rep M w cs q := (∃ ad c, cs = [.int .i64 q.s, .int .i64 q.t, .slice ad q.word.length c] ∧ Sl M w ad c q.word) ∧ i64 q.s ∧ i64 q.t
  len h := by obtain ⟨⟨ad, c, h, _⟩, _⟩ := h; rw [h]; rfl
  ext e h := by obtain ⟨⟨ad, c, h, hs⟩, h2⟩ := h; exact ⟨⟨ad, c, h, hs.ext e⟩, h2⟩

/-- What may be written. -/
abbrev mayQ (N : Nat) (v : Value) (k : Nat) : Prop := v.ownBlock = some k ∨ k < N
/-- The queue. -/
abbrev Qu (N B : Nat) (w : World) (T : TypeId) (v : Value) (l : List Pl) : Prop := Ow B (mayQ N v) w T v l

section
variable {N B : Nat} {w w' : World} {T : TypeId} {v : Value} {a : Option Addr} {c : Nat} {l : List Pl}

theorem Qu.at (h : Qu N B w T (.slice a l.length c) l) {j : Nat} {q : Pl} (hq : l[j]? = some q) :
    ∃ g ad cw, a = some ⟨g, 0, none⟩ ∧ w.cell? ⟨g, j * 3, none⟩ = some (.int .i64 q.s) ∧ w.cell? ⟨g, j * 3 + 1, none⟩ = some (.int .i64 q.t) ∧ w.cell? ⟨g, j * 3 + 2, none⟩ = some (.slice ad q.word.length cw) ∧
      Sl (mayQ N (.slice a l.length c)) w ad cw q.word ∧ Hid (i64 q.s ∧ i64 q.t) ∧ B ≤ g ∧ g < w.heap.size := by
  have hj : j < l.length := by
    by_cases e : j < l.length
    · exact e
    · rw [List.getElem?_eq_none (by omega)] at hq; simp at hq
  obtain ⟨g, rfl, hb, hg⟩ := ow_some h (by omega)
  obtain ⟨xs, h1, h2⟩ := h
  obtain ⟨⟨ad, cw, h3, h4⟩, h5⟩ := h2 j q hq
  have hx : ∀ i u, i < 3 → [Value.int .i64 q.s, .int .i64 q.t, .slice ad q.word.length cw][i]? = some u → w.cell? ⟨g, j * 3 + i, none⟩ = some u := by
    intro i u hi hu
    have hlt : j * 3 + i < l.length * 3 := by omega
    have e := h1.cellAt (j * 3 + i) hlt
    rw [e]
    rw [← h3, List.getElem?_take, if_pos (by exact hi), List.getElem?_drop] at hu
    exact hu
  exact ⟨g, ad, cw, rfl, hx 0 _ (by omega) rfl, hx 1 _ (by omega) rfl, hx 2 _ (by omega) rfl, h4, h5, hb, hg⟩

theorem Qu.later (h : Qu N B w T v l) (hb : Below w.heap.size w w') : Qu N B w' T v l := Ow.below h hb
/-- A store below N. -/
theorem Qu.set (h : Qu N B w T v l) {p : Addr} (hp : p.block < N) (hB : N ≤ B) (u : Value) : Qu N B (w.setCell p u) T v l :=
  h.setOther (.inr hp) (fun k hk => by have := (h.lt k hk).1; omega) u
/-- A queue of one pair, just made. -/
theorem Qu.one {s t : Int} (hs : i64 s) (ht : i64 t) (hB : B ≤ w.heap.size) : Qu N B (w.alloc (.cells #[.int .i64 s, .int .i64 t, .slice none 0 0] T)) T (.slice (some ⟨w.heap.size, 0, none⟩) 1 1) [⟨s, t, []⟩] := by
  refine ⟨[.int .i64 s, .int .i64 t, .slice none 0 0], ?_, fun j y hj => ?_⟩
  · exact World.ownsRow_lit w #[.int .i64 s, .int .i64 t, .slice none 0 0] 1 hB (by unfold maxLen; omega) (by simp [GR.sz])
  · match j, hj with
    | 0, hj => simp at hj; subst hj; exact ⟨⟨none, 0, rfl, Sl.nil _ _ _ (by unfold maxLen; omega)⟩, hs, ht⟩
end

section
variable {P : Program} {w : World} {o : Oper} {a : Act} {ops : Array Oper} {rest : List Oper} {Q : Exit → Act → World → Prop}

/-- append(queue, pair). -/
theorem wp_push_pl {K : Act → World → Prop} {l : List Pl} {s x : Operand} {t e : TypeId} {N B : Nat} {z : Value} {v : Value} {g c : Nat} {q : Pl} {ar : Option Addr} {cr : Nat} (hop : o.op = .call { callee := .builtin .append, args := #[s, x], argTypes := #[t, t] })
    (ht : P.underlying t = some (.slice e)) (hi : (P.info? e).map (fun i => (i.zero, i.size, i.bytes)) = some (some z, 3, 40)) (hzs : z.cells.size = 3)
    (hs : a.eval s = v) (hx : a.eval x = .slice (some ⟨g, 0, none⟩) 1 c) (hown : Qu N B w e v l)
    (hn0 : w.cell? ⟨g, 0, none⟩ = some (.int .i64 q.s)) (hn1 : w.cell? ⟨g, 1, none⟩ = some (.int .i64 q.t)) (hn2 : w.cell? ⟨g, 2, none⟩ = some (.slice ar q.word.length cr)) (hy : Sl (mayQ N v) w ar cr q.word) (hs64 : i64 q.s) (ht64 : i64 q.t)
    (hlen : l.length < 1000000000000) (hB : B ≤ w.heap.size)
    (h : ∀ (a' : Option Addr) (c' : Nat) (l' : List Pl) (w' : World), Hid (l' = l ++ [q]) → Qu N B w' e (.slice a' l'.length c') l' → Hid (∀ k, (Value.slice a' l'.length c').ownBlock = some k → (v.ownBlock = some k ∨ k = w.heap.size) ∧ k < w'.heap.size) →
      w.grownBy w' v.ownBlock → K (a.put o.dst (.slice a' l'.length c')) w') : o.wp P a w K Q := by
  refine wp_push2 s x t hop e z 3 40 ht hi hzs (by decide) B (mayQ N v) v l hs rfl hown (fun k hk => .inl hk) ⟨g, 0, none⟩ c [.int .i64 q.s, .int .i64 q.t, .slice ar q.word.length cr] q hx ⟨⟨ar, cr, rfl, hy⟩, hs64, ht64⟩ ?_ ?_ (by omega) (by unfold maxLen; omega) hB ?_
  · intro j u hj
    match j, hj with
    | 0, hj => simp at hj; subst hj; simpa [Addr.add] using hn0
    | 1, hj => simp at hj; subst hj; simpa [Addr.add] using hn1
    | 2, hj => simp at hj; subst hj; simpa [Addr.add] using hn2
    | j + 3, hj => simp at hj
  · intro u hu; simp at hu; rcases hu with rfl | rfl | rfl <;> rfl
  · intro a' c' l' w' h1 h2 h3 h4
    refine h a' c' l' w' h1 (h2.ext (Ext.sub_only fun k _ hk => ?_) fun _ _ => rfl) h3 h4
    rcases hk with hk | hk
    · rcases (h3.out k hk).1 with h5 | h5
      · exact .inl (.inl h5)
      · exact .inr h5
    · exact .inl (.inr hk)

theorem wpList_push_pl {l : List Pl} {s x : Operand} {t e : TypeId} {N B : Nat} {z : Value} {v : Value} {g c : Nat} {q : Pl} {ar : Option Addr} {cr : Nat} (hg : o.guard = none) (hop : o.op = .call { callee := .builtin .append, args := #[s, x], argTypes := #[t, t] })
    (ht : P.underlying t = some (.slice e)) (hi : (P.info? e).map (fun i => (i.zero, i.size, i.bytes)) = some (some z, 3, 40)) (hzs : z.cells.size = 3)
    (hs : a.eval s = v) (hx : a.eval x = .slice (some ⟨g, 0, none⟩) 1 c) (hown : Qu N B w e v l)
    (hn0 : w.cell? ⟨g, 0, none⟩ = some (.int .i64 q.s)) (hn1 : w.cell? ⟨g, 1, none⟩ = some (.int .i64 q.t)) (hn2 : w.cell? ⟨g, 2, none⟩ = some (.slice ar q.word.length cr)) (hy : Sl (mayQ N v) w ar cr q.word) (hs64 : i64 q.s) (ht64 : i64 q.t)
    (hlen : l.length < 1000000000000) (hB : B ≤ w.heap.size)
    (h : ∀ (a' : Option Addr) (c' : Nat) (l' : List Pl) (w' : World), Hid (l' = l ++ [q]) → Qu N B w' e (.slice a' l'.length c') l' → Hid (∀ k, (Value.slice a' l'.length c').ownBlock = some k → (v.ownBlock = some k ∨ k = w.heap.size) ∧ k < w'.heap.size) →
      w.grownBy w' v.ownBlock → wpList P ops Q rest (a.put o.dst (.slice a' l'.length c')) w') : wpList P ops Q (o :: rest) a w :=
  wpList_plain hg fun _ hK => wp_push_pl hop ht hi hzs hs hx hown hn0 hn1 hn2 hy hs64 ht64 hlen hB fun a' c' l' w' h2 h3 h4 h5 => hK _ _ (h a' c' l' w' h2 h3 h4 h5)
end
end Go.Proofs.Ytdnmgiabgpilkaa
