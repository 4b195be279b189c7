/- The search finds the first word that two states answer differently. Condition: the machines are valid and have the same inputs. -/
import Derived.Test.YtdnmgiabgpilkaaSim
import Derived.Test.YtdnmgiabgpilkaaOrdLaw
import Derived.Test.YtdnmgiabgpilkaaPl9
namespace Go.Proofs.Ytdnmgiabgpilkaa

theorem lex_snoc : ∀ {u v : List Int} (x y : Int), u.length = v.length → lexW (u ++ [x]) (v ++ [y]) = if lexW u v = 0 then sgn x y else lexW u v
  | [], [], x, y, _ => by
    simp only [List.nil_append, lexW, if_true]
    split
    · rename_i h; subst h; exact (sgn_eq rfl).symm
    · rfl
  | [], _ :: _, _, _, h => by simp at h
  | _ :: _, [], _, _, h => by simp at h
  | p :: u, q :: v, x, y, h => by
    have ih := lex_snoc (u := u) (v := v) x y (by simpa using h)
    by_cases e : p = q
    · have e1 : lexW (p :: u) (q :: v) = lexW u v := by show (if p = q then lexW u v else sgn p q) = _; rw [if_pos e]
      have e2 : lexW (p :: u ++ [x]) (q :: v ++ [y]) = lexW (u ++ [x]) (v ++ [y]) := by show (if p = q then lexW (u ++ [x]) (v ++ [y]) else sgn p q) = _; rw [if_pos e]
      rw [e1, e2]; exact ih
    · have e1 : lexW (p :: u) (q :: v) = sgn p q := by unfold lexW; rw [if_neg e]
      have e2 : lexW (p :: u ++ [x]) (q :: v ++ [y]) = sgn p q := by rw [List.cons_append, List.cons_append]; unfold lexW; rw [if_neg e]
      rw [e1, e2, if_neg (fun h2 => e (sgn_zero h2))]
theorem cmp_snoc (u v : List Int) (x y : Int) : cmpW (u ++ [x]) (v ++ [y]) = if cmpW u v = 0 then sgn x y else cmpW u v := by
  unfold cmpW
  by_cases e : u.length = v.length
  · rw [if_pos (by simp [e]), if_pos e]; exact lex_snoc x y e
  · have hne : sgn (u.length : Int) (v.length : Int) ≠ 0 := fun h => e (by have := sgn_zero h; omega)
    rw [if_neg (by simp [e]), if_neg e, if_neg hne]
    simp only [List.length_append, List.length_singleton]
    unfold sgn
    simp only [Int.natCast_add]
    by_cases h1 : (u.length : Int) < v.length
    · rw [if_pos h1, if_pos (by omega)]
    · rw [if_neg h1, if_neg (by omega)]
      by_cases h2 : (v.length : Int) < u.length
      · rw [if_pos h2, if_pos (by omega)]
      · rw [if_neg h2, if_neg (by omega)]
theorem snoc_lt {u v : List Int} {x y : Int} (h : cmpW u v < 0 ∨ (u = v ∧ x < y)) : cmpW (u ++ [x]) (v ++ [y]) < 0 := by
  rw [cmp_snoc]
  rcases h with h | ⟨rfl, h⟩
  · rw [if_neg (by omega)]; exact h
  · rw [if_pos (cmp_same u), sgn_lt h]; decide
theorem lt_snoc {u v : List Int} {x y : Int} (h : cmpW (u ++ [x]) (v ++ [y]) < 0) : cmpW u v < 0 ∨ (u = v ∧ x < y) := by
  rw [cmp_snoc] at h
  split at h
  · rename_i e
    exact .inr ⟨cmp_zero e, sgn_neg.1 h⟩
  · exact .inl h
theorem le_snoc {u v : List Int} {x : Int} (h : cmpW u v ≤ 0) : cmpW (u ++ [x]) (v ++ [x]) ≤ 0 := by
  rw [cmp_snoc]
  split
  · rw [sgn_eq rfl]; decide
  · exact h
theorem cmp_nil (u : List Int) : cmpW [] u ≤ 0 := by
  cases u with
  | nil => rw [cmp_same]; decide
  | cons x u => rw [cmp_short (by simp)]; decide
theorem cmp_lt_of {u v w : List Int} (h : cmpW u v ≤ 0) (h2 : cmpW v w < 0) : cmpW u w < 0 := by
  have h3 := cmp_trans (a := u) (b := v) (c := w) h (by omega)
  by_cases e : cmpW u v < 0
  · exact h3.2 e
  · have e0 : cmpW u v = 0 := by omega
    rw [cmp_zero e0]; exact h2

/-- The list after all symbols of the pairs ahead of place i, and those ahead of x of the pair there. -/
structure Inv (a b : Mach) (s t : Int) (i x : Nat) (l : List Pl) : Prop where
  head : l[0]? = some ⟨s, t, []⟩
  good : ∀ q ∈ l, a.okS q.word ∧ a.endW s q.word = q.s ∧ b.endW t q.word = q.t ∧ a.outsW s q.word = b.outsW t q.word
  sorted : ∀ (j k : Nat) (p q : Pl), j < k → l[j]? = some p → l[k]? = some q → cmpW p.word q.word < 0
  par : ∀ q ∈ l, q.word = [] ∨ ∃ (k y : Nat) (p : Pl), (k < i ∨ (k = i ∧ y < x)) ∧ l[k]? = some p ∧ q.word = p.word ++ [(y : Int)]
  done : ∀ (j y : Nat) (p : Pl), (j < i ∨ (j = i ∧ y < x)) → y < a.inputs.toNat → l[j]? = some p → a.ot p.s.toNat y = b.ot p.t.toNat y ∧ ∃ q ∈ l, q.s = a.nx p.s.toNat y ∧ q.t = b.nx p.t.toNat y ∧ cmpW q.word (p.word ++ [(y : Int)]) ≤ 0

/-- The first word that is answered differently. -/
def Best (a b : Mach) (s t : Int) (v : List Int) : Prop := (a.okS v ∧ a.outsW s v ≠ b.outsW t v) ∧ ∀ u, a.okS u → cmpW u v < 0 → a.outsW s u = b.outsW t u

section
variable {a b : Mach} {s t : Int} {l : List Pl} {i x : Nat} {p : Pl}
theorem Inv.init : Inv a b s t 0 0 [⟨s, t, []⟩] := by
  refine ⟨rfl, fun q hq => ?_, fun j k p q hjk hp hq => ?_, fun q hq => ?_, fun j y p h => by omega⟩
  · simp at hq; subst hq; exact ⟨a.okS_nil, rfl, rfl, rfl⟩
  · rw [List.getElem?_eq_none (by simp; omega)] at hq; simp at hq
  · simp at hq; subst hq; exact .inl rfl
theorem Inv.below (h : Inv a b s t i x l) (hp : l[i]? = some p) : ∀ q ∈ l, cmpW q.word (p.word ++ [(x : Int)]) < 0 := by
  intro q hq
  rcases h.par q hq with e | ⟨k, y, r, hk, hr, e⟩
  · have h2 : cmpW [] (p.word ++ [(x : Int)]) = -1 := cmp_short (by simp)
    rw [e, h2]; decide
  · rw [e]
    apply snoc_lt
    rcases hk with hk | ⟨rfl, hy⟩
    · exact .inl (h.sorted k i r p hk hr hp)
    · rw [hp] at hr
      obtain rfl : p = r := by simpa using hr
      exact .inr ⟨rfl, by omega⟩
/-- Words whose steps have all been made. -/
theorem Inv.words (h : Inv a b s t i x l) (F : List Int → Prop) (hF : ∀ u y, F (u ++ [y]) → F u)
    (hd : ∀ (j : Nat) (q : Pl) (u : List Int) (y : Int), 0 ≤ y → y < a.inputs → l[j]? = some q → F (u ++ [y]) → cmpW q.word u ≤ 0 → j < i ∨ (j = i ∧ y.toNat < x)) :
    ∀ (n : Nat) (u : List Int), u.length = n → a.okS u → F u → a.outsW s u = b.outsW t u ∧ ∃ q ∈ l, q.s = a.endW s u ∧ q.t = b.endW t u ∧ cmpW q.word u ≤ 0
  | 0, u, hn, _, _ => by
    obtain rfl : u = [] := List.eq_nil_of_length_eq_zero hn
    exact ⟨rfl, _, List.mem_of_getElem? h.head, rfl, rfl, by rw [cmp_same]; decide⟩
  | n + 1, u, hn, hu, hfu => by
    obtain ⟨v, y, rfl⟩ : ∃ v y, u = v ++ [y] := ⟨u.dropLast, u.getLast (by intro e; rw [e] at hn; simp at hn), (List.dropLast_concat_getLast _).symm⟩
    obtain ⟨hv, hy⟩ := Mach.okS_app hu
    obtain ⟨y0, y1⟩ := hy y (by simp)
    obtain ⟨h1, q, hq, e1, e2, h2⟩ := Inv.words h F hF hd n v (by simpa using hn) hv (hF v y hfu)
    obtain ⟨j, hj, ej⟩ := List.getElem_of_mem hq
    have hj2 : l[j]? = some q := by rw [List.getElem?_eq_getElem hj, ej]
    obtain ⟨h3, r, hr, e3, e4, h4⟩ := h.done j y.toNat q (hd j q v y y0 y1 hj2 hfu h2) (by omega) hj2
    have ey : ((y.toNat : Nat) : Int) = y := by omega
    rw [ey] at h4
    refine ⟨?_, r, hr, ?_, ?_, (cmp_trans h4 (le_snoc h2)).1⟩
    · rw [Mach.outsW_snoc, Mach.outsW_snoc, h1, ← e1, ← e2, h3]
    · rw [Mach.endW_snoc, ← e1]; exact e3
    · rw [Mach.endW_snoc, ← e2]; exact e4
/-- A difference at the frontier is the first one. -/
theorem Inv.best (h : Inv a b s t i x l) (hp : l[i]? = some p) (hx : x < a.inputs.toNat) (hd : a.ot p.s.toNat x ≠ b.ot p.t.toNat x) : Best a b s t (p.word ++ [(x : Int)]) := by
  obtain ⟨g1, g2, g3, g4⟩ := h.good p (List.mem_of_getElem? hp)
  refine ⟨⟨fun y hy => ?_, ?_⟩, fun u hu hc => ?_⟩
  · rw [List.mem_append, List.mem_singleton] at hy
    rcases hy with hy | rfl
    · exact g1 y hy
    · omega
  · rw [Mach.outsW_snoc, Mach.outsW_snoc, g2, g3, g4]
    simp only [Int.toNat_natCast]
    intro e
    exact hd (by simpa using e)
  · refine (h.words (F := fun u => cmpW u (p.word ++ [(x : Int)]) < 0) (fun u y hy => ?_) (fun j q u y y0 y1 hq hF hle => ?_) u.length u rfl hu hc).1
    · exact cmp_lt_of (by rw [cmp_short (a := u) (b := u ++ [y]) (by simp)]; decide) hy
    · have h5 : cmpW (q.word ++ [y]) (p.word ++ [(x : Int)]) < 0 := cmp_lt_of (le_snoc hle) hF
      rcases lt_snoc h5 with h6 | ⟨h6, h7⟩
      · by_cases e : j < i
        · exact .inl e
        · exfalso
          by_cases e2 : j = i
          · subst e2; rw [hp] at hq
            obtain rfl : p = q := by simpa using hq
            rw [cmp_same] at h6; omega
          · have h7 := h.sorted i j p q (by omega) hp hq
            have := cmp_lt_of (by omega : cmpW q.word p.word ≤ 0) h7
            rw [cmp_same] at this; omega
      · by_cases e : j < i
        · exact .inl e
        · by_cases e2 : j = i
          · exact .inr ⟨e2, by omega⟩
          · exfalso
            have h8 := h.sorted i j p q (by omega) hp hq
            rw [h6, cmp_same] at h8; omega
/-- The next symbol: the pair is known. -/
theorem Inv.old (h : Inv a b s t i x l) (hp : l[i]? = some p) (hd : a.ot p.s.toNat x = b.ot p.t.toNat x) (hk : known l (a.nx p.s.toNat x) (b.nx p.t.toNat x) = true) : Inv a b s t i (x + 1) l := by
  refine ⟨h.head, h.good, h.sorted, fun q hq => ?_, fun j y r hj hy hr => ?_⟩
  · rcases h.par q hq with e | ⟨k, y, r, hk, hr, e⟩
    · exact .inl e
    · exact .inr ⟨k, y, r, by omega, hr, e⟩
  · by_cases e : j = i ∧ y = x
    · obtain ⟨rfl, rfl⟩ := e
      rw [hp] at hr
      obtain rfl : p = r := by simpa using hr
      obtain ⟨q, hq, e1, e2⟩ := known_iff.1 hk
      exact ⟨hd, q, hq, e1, e2, Int.le_of_lt (h.below hp q hq)⟩
    · exact h.done j y r (by omega) hy hr
/-- The next symbol: the pair is new. -/
theorem Inv.new (h : Inv a b s t i x l) (hp : l[i]? = some p) (hx : x < a.inputs.toNat) (hd : a.ot p.s.toNat x = b.ot p.t.toNat x) : Inv a b s t i (x + 1) (l ++ [⟨a.nx p.s.toNat x, b.nx p.t.toNat x, p.word ++ [(x : Int)]⟩]) := by
  obtain ⟨g1, g2, g3, g4⟩ := h.good p (List.mem_of_getElem? hp)
  have hbl := h.below hp
  have hil : i < l.length := by
    by_cases e : i < l.length
    · exact e
    · rw [List.getElem?_eq_none (by omega)] at hp; simp at hp
  have hold : ∀ {j : Nat} {r : Pl}, l[j]? = some r → (l ++ [(⟨a.nx p.s.toNat x, b.nx p.t.toNat x, p.word ++ [(x : Int)]⟩ : Pl)])[j]? = some r := fun {j r} hr => by
    have hj : j < l.length := by
      by_cases e : j < l.length
      · exact e
      · rw [List.getElem?_eq_none (by omega)] at hr; simp at hr
    rw [List.getElem?_append_left hj]; exact hr
  have hcases : ∀ {j : Nat} {r : Pl}, (l ++ [(⟨a.nx p.s.toNat x, b.nx p.t.toNat x, p.word ++ [(x : Int)]⟩ : Pl)])[j]? = some r → (j < l.length ∧ l[j]? = some r) ∨ (j = l.length ∧ r = ⟨a.nx p.s.toNat x, b.nx p.t.toNat x, p.word ++ [(x : Int)]⟩) := fun {j r} hr => by
    by_cases hj : j < l.length
    · rw [List.getElem?_append_left hj] at hr; exact .inl ⟨hj, hr⟩
    · rw [List.getElem?_append_right (by omega)] at hr
      by_cases e : j = l.length
      · subst e; simp at hr; exact .inr ⟨rfl, hr.symm⟩
      · rw [List.getElem?_eq_none (by simp; omega)] at hr; simp at hr
  refine ⟨hold h.head, fun q hq => ?_, fun j k q r hjk hq hr => ?_, fun q hq => ?_, fun j y r hj hy hr => ?_⟩
  · rw [List.mem_append, List.mem_singleton] at hq
    rcases hq with hq | rfl
    · exact h.good q hq
    · refine ⟨fun y hy => ?_, ?_, ?_, ?_⟩
      · simp only [List.mem_append, List.mem_singleton] at hy
        rcases hy with hy | rfl
        · exact g1 y hy
        · omega
      · simp only; rw [Mach.endW_snoc, g2]; simp
      · simp only; rw [Mach.endW_snoc, g3]; simp
      · simp only; rw [Mach.outsW_snoc, Mach.outsW_snoc, g2, g3, g4]; simp [hd]
  · rcases hcases hq with ⟨-, hq2⟩ | ⟨e1, -⟩
    · rcases hcases hr with ⟨-, hr2⟩ | ⟨-, rfl⟩
      · exact h.sorted j k q r hjk hq2 hr2
      · exact hbl q (List.mem_of_getElem? hq2)
    · rcases hcases hr with ⟨h2, -⟩ | ⟨e2, -⟩ <;> omega
  · rw [List.mem_append, List.mem_singleton] at hq
    rcases hq with hq | rfl
    · rcases h.par q hq with e | ⟨k, y, r, hk, hr, e⟩
      · exact .inl e
      · exact .inr ⟨k, y, r, by omega, hold hr, e⟩
    · exact .inr ⟨i, x, p, by omega, hold hp, rfl⟩
  · rcases hcases hr with ⟨-, hr2⟩ | ⟨e1, -⟩
    · by_cases e : j = i ∧ y = x
      · obtain ⟨rfl, rfl⟩ := e
        rw [hp] at hr2
        obtain rfl : p = r := by simpa using hr2
        exact ⟨hd, _, by rw [List.mem_append]; exact .inr (List.mem_singleton.2 rfl), rfl, rfl, by rw [cmp_same]; decide⟩
      · obtain ⟨h1, q, hq, e1, e2, h2⟩ := h.done j y r (by omega) hy hr2
        exact ⟨h1, q, by rw [List.mem_append]; exact .inl hq, e1, e2, h2⟩
    · omega
/-- The next pair. -/
theorem Inv.next (h : Inv a b s t i a.inputs.toNat l) : Inv a b s t (i + 1) 0 l := by
  refine ⟨h.head, h.good, h.sorted, fun q hq => ?_, fun j y r hj hy hr => h.done j y r (by omega) hy hr⟩
  rcases h.par q hq with e | ⟨k, y, r, hk, hr, e⟩
  · exact .inl e
  · exact .inr ⟨k, y, r, by omega, hr, e⟩
theorem Inv.rest (h : Inv a b s t i 0 l) (hl : l[i]? = none) : Inv a b s t (i + 1) 0 l := by
  refine ⟨h.head, h.good, h.sorted, fun q hq => ?_, fun j y r hj hy hr => h.done j y r ?_ hy hr⟩
  · rcases h.par q hq with e | ⟨k, y, r, hk, hr, e⟩
    · exact .inl e
    · exact .inr ⟨k, y, r, by omega, hr, e⟩
  · by_cases e : j = i
    · subst e; rw [hl] at hr; simp at hr
    · omega
theorem scan_inv (h : Inv a b s t i 0 l) (hp : l[i]? = some p) : ∀ x, x ≤ a.inputs.toNat →
    (∀ v, (scan a b p l x).2 = some v → Best a b s t v) ∧ ((scan a b p l x).2 = none → Inv a b s t i x (scan a b p l x).1 ∧ (scan a b p l x).1[i]? = some p)
  | 0, _ => ⟨fun v hv => by simp [scan] at hv, fun _ => ⟨h, hp⟩⟩
  | x + 1, hx => by
    obtain ⟨h1, h2⟩ := scan_inv h hp x (by omega)
    unfold scan
    cases e : (scan a b p l x).2 with
    | some w => exact ⟨fun v hv => h1 v (by rw [e]; exact hv), fun h3 => by simp at h3⟩
    | none =>
      obtain ⟨h3, h4⟩ := h2 e
      simp only
      by_cases hd : a.ot p.s.toNat x = b.ot p.t.toNat x
      · rw [if_neg (by simpa using hd)]
        by_cases hk : known (scan a b p l x).1 (a.nx p.s.toNat x) (b.nx p.t.toNat x) = true
        · rw [if_pos hk]
          exact ⟨fun v hv => by simp at hv, fun _ => ⟨h3.old h4 hd hk, h4⟩⟩
        · rw [if_neg hk]
          refine ⟨fun v hv => by simp at hv, fun _ => ⟨h3.new h4 (by omega) hd, ?_⟩⟩
          simp only
          rw [List.getElem?_append_left]
          · exact h4
          · by_cases e : i < (scan a b p l x).1.length
            · exact e
            · rw [List.getElem?_eq_none (by omega)] at h4; simp at h4
      · rw [if_pos hd]
        exact ⟨fun v hv => by simp at hv; subst hv; exact h3.best h4 (by omega) hd, fun h5 => by simp at h5⟩
theorem srch_inv (a b : Mach) (s t : Int) : ∀ i, (∀ v, (srch a b s t i).2 = some v → Best a b s t v) ∧ ((srch a b s t i).2 = none → Inv a b s t i 0 (srch a b s t i).1)
  | 0 => ⟨fun v hv => by simp [srch] at hv, fun _ => Inv.init⟩
  | i + 1 => by
    obtain ⟨h1, h2⟩ := srch_inv a b s t i
    unfold srch
    cases e : (srch a b s t i).2 with
    | some w => exact ⟨fun v hv => h1 v (by rw [e]; exact hv), fun h3 => by simp at h3⟩
    | none =>
      have h3 := h2 e
      simp only
      cases e2 : (srch a b s t i).1[i]? with
      | none => exact ⟨fun v hv => by simp at hv, fun _ => h3.rest e2⟩
      | some p =>
        obtain ⟨h4, h5⟩ := scan_inv h3 e2 a.inputs.toNat (Nat.le_refl _)
        exact ⟨h4, fun h6 => (h5 h6).1.next⟩
theorem first_some {v : List Int} (h : firstW a b s t = some v) : Best a b s t v := (srch_inv a b s t _).1 v h
theorem first_all (oa : a.Ok) (ob : b.Ok) (hi : a.inputs = b.inputs) (hs : 0 ≤ s ∧ s < a.next.length) (ht : 0 ≤ t ∧ t < b.next.length) (h : firstW a b s t = none) : Mach.Sim a b s t := by
  have hg := (GoodP.srch oa ob hi hs ht (a.next.length * b.next.length)).le
  have hI := (srch_inv a b s t (a.next.length * b.next.length)).2 h
  intro u hu
  refine (hI.words (F := fun _ => True) (fun _ _ _ => trivial) (fun j q u y y0 y1 hq _ _ => .inl ?_) u.length u rfl hu trivial).1
  by_cases e : j < (srch a b s t (a.next.length * b.next.length)).1.length
  · omega
  · rw [List.getElem?_eq_none (by omega)] at hq; simp at hq
/-- No word is found just if the states answer alike. -/
theorem first_iff (oa : a.Ok) (ob : b.Ok) (hi : a.inputs = b.inputs) (hs : 0 ≤ s ∧ s < a.next.length) (ht : 0 ≤ t ∧ t < b.next.length) : firstW a b s t = none ↔ Mach.Sim a b s t := by
  refine ⟨first_all oa ob hi hs ht, fun h => ?_⟩
  cases e : firstW a b s t with
  | none => rfl
  | some v => exact absurd (h v (first_some e).1.1) (first_some e).1.2
theorem Best.unique {v w : List Int} (hi : a.inputs = b.inputs) (h : Best a b s t v) (h2 : Best b a t s w) : v = w := by
  have h3 : ¬ cmpW v w < 0 := fun e => h.1.2 (h2.2 v (Mach.okS_swap hi.symm h.1.1) e).symm
  have h4 : ¬ cmpW w v < 0 := fun e => h2.1.2 (h.2 w (Mach.okS_swap hi h2.1.1) e).symm
  rw [cmp_swap] at h4
  exact cmp_zero (by omega)
theorem first_swap (oa : a.Ok) (ob : b.Ok) (hi : a.inputs = b.inputs) (hs : 0 ≤ s ∧ s < a.next.length) (ht : 0 ≤ t ∧ t < b.next.length) : firstW b a t s = firstW a b s t := by
  cases e : firstW a b s t with
  | none => exact (first_iff ob oa hi.symm ht hs).2 (Mach.Sim.symm hi ((first_iff oa ob hi hs ht).1 e))
  | some v =>
    cases e2 : firstW b a t s with
    | none =>
      have := (first_iff oa ob hi hs ht).2 (Mach.Sim.symm hi.symm ((first_iff ob oa hi.symm ht hs).1 e2))
      rw [e] at this; cases this
    | some w => rw [(first_some e).unique hi (first_some e2)]
end
end Go.Proofs.Ytdnmgiabgpilkaa
