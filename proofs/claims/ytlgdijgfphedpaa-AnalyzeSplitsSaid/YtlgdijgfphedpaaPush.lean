/- Several slices that grow side by side: what a write or a push leaves. No condition. -/
import Derived.Test.YtlgdijgfphedpaaBuild
namespace Go.Proofs.Ytlgdijgfphedpaa
open Go.RowKit

section
variable {P : Program} {w : World} {o : Oper} {a : Act} {ops : Array Oper} {rest : List Oper} {Q : Exit → Act → World → Prop}

/-- append(s, x): one number; where the new block lies. -/
theorem wp_push_o {K : Act → World → Prop} {l : List Int} {s x : Operand} {t e : TypeId} {B : Nat} {M : Nat → Prop} {v : Value} {g : Nat} {c : Nat} {y : Int} (hop : o.op = .call { callee := .builtin .append, args := #[s, x], argTypes := #[t, t] })
    (ht : P.underlying t = some (.slice e)) (hi : (P.info? e).map (fun i => (i.zero, i.size, i.bytes)) = some (some (.int .i64 0), 1, 8))
    (hs : a.eval s = v) (hx : a.eval x = .slice (some ⟨g, 0, none⟩) 1 c) (hown : Ow B M w e v l) (hnew : w.cell? ⟨g, 0, none⟩ = some (.int .i64 y)) (hy : i64 y)
    (hlen : l.length < 1000000000000) (hB : B ≤ w.heap.size)
    (h : ∀ (a' : Option Addr) (c' : Nat) (l' : List Int) (w' : World), Hid (l' = l ++ [y]) → Ow B M w' e (.slice a' l'.length c') l' → Hid (∀ k, (Value.slice a' l'.length c').ownBlock = some k → (v.ownBlock = some k ∨ k = w.heap.size) ∧ k < w'.heap.size) →
      w.grownBy w' v.ownBlock → K (a.put o.dst (.slice a' l'.length c')) w') : o.wp P a w K Q := by
  refine wp_push2 s x t hop e (.int .i64 0) 1 8 ht hi rfl (by decide) B (fun _ => True) v l hs rfl hown.anyM (fun _ _ => trivial) ⟨g, 0, none⟩ c [.int .i64 y] y hx ⟨rfl, hy⟩ ?_ ?_ (by omega) (by unfold maxLen; omega) hB fun a' c' l' w' h1 h2 h3 h4 => h a' c' l' w' h1 h2.anyM h3 h4
  · intro j u hj
    match j, hj with
    | 0, hj => simp at hj; subst hj; simpa [Addr.add] using hnew
  · intro u hu; simp at hu; subst hu; rfl

theorem wpList_push_o {l : List Int} {s x : Operand} {t e : TypeId} {B : Nat} {M : Nat → Prop} {v : Value} {g : Nat} {c : Nat} {y : Int} (hg : o.guard = none) (hop : o.op = .call { callee := .builtin .append, args := #[s, x], argTypes := #[t, t] })
    (ht : P.underlying t = some (.slice e)) (hi : (P.info? e).map (fun i => (i.zero, i.size, i.bytes)) = some (some (.int .i64 0), 1, 8))
    (hs : a.eval s = v) (hx : a.eval x = .slice (some ⟨g, 0, none⟩) 1 c) (hown : Ow B M w e v l) (hnew : w.cell? ⟨g, 0, none⟩ = some (.int .i64 y)) (hy : i64 y)
    (hlen : l.length < 1000000000000) (hB : B ≤ w.heap.size)
    (h : ∀ (a' : Option Addr) (c' : Nat) (l' : List Int) (w' : World), Hid (l' = l ++ [y]) → Ow B M w' e (.slice a' l'.length c') l' → Hid (∀ k, (Value.slice a' l'.length c').ownBlock = some k → (v.ownBlock = some k ∨ k = w.heap.size) ∧ k < w'.heap.size) →
      w.grownBy w' v.ownBlock → wpList P ops Q rest (a.put o.dst (.slice a' l'.length c')) w') : wpList P ops Q (o :: rest) a w :=
  wpList_plain hg fun _ hK => wp_push_o hop ht hi hs hx hown hnew hy hlen hB fun a' c' l' w' h2 h3 h4 h5 => hK _ _ (h a' c' l' w' h2 h3 h4 h5)
end

section
variable {B0 : Nat} {M M' : Nat → Prop} {w w' : World} {bo : Nat} {inp st : Int} {aN : Option Addr} {cN : Nat} {rN : List (List Int)} {aO : Option Addr} {cO : Nat} {rO : List (List Int)}

/-- A list of numbers stays where its own block stays. -/
theorem Ow.kept {B : Nat} {T : TypeId} {v : Value} {l : List Int} (h : Ow B M w T v l) (hs : w.heap.size ≤ w'.heap.size) (hb : ∀ k, v.ownBlock = some k → w'.heap[k]? = w.heap[k]?) : Ow B M w' T v l :=
  (h.anyM (M' := fun _ => True)).ext (M' := M) ⟨hs, fun _ _ hm => absurd trivial hm, fun _ _ _ => trivial⟩ hb

/-- What only strikes blocks that may be written, and none of the struct's own. -/
theorem Mk.touch (h : Mk B0 M w bo inp st aN cN rN aO cO rO) (e : Ext M M w w') (h0 : w'.heap[bo]? = w.heap[bo]?) (hn : ∀ k, (Value.slice aN rN.length cN).ownBlock = some k → w'.heap[k]? = w.heap[k]?)
    (ho : ∀ k, (Value.slice aO rO.length cO).ownBlock = some k → w'.heap[k]? = w.heap[k]?) : Mk B0 M w' bo inp st aN cN rN aO cO rO :=
  ⟨h.old, h.mbo, h0.trans h.blk, h.n.ext e hn, h.o.ext e ho, h.mn, h.mo, h.no, h.b0, fun q h1 h2 => Nat.lt_of_lt_of_le (h.lt q h1 h2) e.size⟩

/-- Fewer blocks may be written from now on. -/
theorem Mk.sub (h : Mk B0 M w bo inp st aN cN rN aO cO rO) (hs : ∀ k, M' k → M k) (hold : ∀ q, q < B0 → M' q) (hbo : M' bo) (hn : ∀ k, (Value.slice aN rN.length cN).ownBlock = some k → M' k)
    (ho : ∀ k, (Value.slice aO rO.length cO).ownBlock = some k → M' k) : Mk B0 M' w bo inp st aN cN rN aO cO rO :=
  ⟨hold, hbo, h.blk, h.n.subM fun k _ hk => hs k hk, h.o.subM fun k _ hk => hs k hk, fun k hk => ⟨hn k hk, (h.mn k hk).2⟩, fun k hk => ⟨ho k hk, (h.mo k hk).2⟩, h.no, h.b0, fun q h1 h2 => h.lt q h1 (hs q h2)⟩
end
end Go.Proofs.Ytlgdijgfphedpaa
