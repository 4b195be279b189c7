/- The plain words for the search of a word with different outputs: pairs of states, breadth first. Condition where named: both machines are valid and have the same inputs. -/
import Derived.Test.YtdnmgiabgpilkaaBfs
namespace Go.Proofs.Ytdnmgiabgpilkaa

/-- A pair of states and a word that reaches it. -/
structure Pl where
  s : Int
  t : Int
  word : List Int
  deriving DecidableEq

def known (l : List Pl) (s t : Int) : Bool := l.any fun q => decide (q.s = s ∧ q.t = t)
theorem known_iff {l : List Pl} {s t : Int} : known l s t = true ↔ ∃ q ∈ l, q.s = s ∧ q.t = t := by simp [known]
theorem known_snoc (l : List Pl) (q : Pl) (s t : Int) : known (l ++ [q]) s t = (known l s t || decide (q.s = s ∧ q.t = t)) := by simp [known]

/-- The symbols ahead of x of one pair: the list, and the word that was found. -/
def scan (a b : Mach) (p : Pl) (l : List Pl) : Nat → List Pl × Option (List Int)
  | 0 => (l, none)
  | x + 1 => match (scan a b p l x).2 with
    | some w => ((scan a b p l x).1, some w)
    | none => if a.ot p.s.toNat x ≠ b.ot p.t.toNat x then ((scan a b p l x).1, some (p.word ++ [(x : Int)]))
      else if known (scan a b p l x).1 (a.nx p.s.toNat x) (b.nx p.t.toNat x) = true then ((scan a b p l x).1, none)
      else ((scan a b p l x).1 ++ [⟨a.nx p.s.toNat x, b.nx p.t.toNat x, p.word ++ [(x : Int)]⟩], none)

section
variable {a b : Mach} {p : Pl} {l l' : List Pl} {x : Nat} {w : List Int}
theorem scan_diff (h : scan a b p l x = (l', none)) (hd : a.ot p.s.toNat x ≠ b.ot p.t.toNat x) : scan a b p l (x + 1) = (l', some (p.word ++ [(x : Int)])) := by
  unfold scan; simp only [h, if_pos hd]
theorem scan_old (h : scan a b p l x = (l', none)) (hd : a.ot p.s.toNat x = b.ot p.t.toNat x) (hk : known l' (a.nx p.s.toNat x) (b.nx p.t.toNat x) = true) : scan a b p l (x + 1) = (l', none) := by
  unfold scan; simp only [h]; rw [if_neg (by simpa using hd), if_pos hk]
theorem scan_new (h : scan a b p l x = (l', none)) (hd : a.ot p.s.toNat x = b.ot p.t.toNat x) (hk : known l' (a.nx p.s.toNat x) (b.nx p.t.toNat x) = false) :
    scan a b p l (x + 1) = (l' ++ [⟨a.nx p.s.toNat x, b.nx p.t.toNat x, p.word ++ [(x : Int)]⟩], none) := by
  unfold scan; simp only [h]; rw [if_neg (by simpa using hd), if_neg (by rw [hk]; decide)]
theorem scan_stop (h : scan a b p l x = (l', some w)) : ∀ y, x ≤ y → scan a b p l y = (l', some w) := by
  intro y hy
  induction y with
  | zero => obtain rfl : x = 0 := by omega
            exact h
  | succ y ih =>
    by_cases e : x = y + 1
    · rw [← e]; exact h
    · have := ih (by omega)
      unfold scan; simp only [this]
theorem scan_cases (a b : Mach) (p : Pl) (l : List Pl) : ∀ x, ∃ s, (scan a b p l x).1 = l ++ s
  | 0 => ⟨[], by simp [scan]⟩
  | x + 1 => by
    obtain ⟨s, hs⟩ := scan_cases a b p l x
    unfold scan
    split
    · exact ⟨s, hs⟩
    · split
      · exact ⟨s, hs⟩
      · split
        · exact ⟨s, hs⟩
        · exact ⟨s ++ [⟨a.nx p.s.toNat x, b.nx p.t.toNat x, p.word ++ [(x : Int)]⟩], by simp only [hs, List.append_assoc]⟩
theorem scan_none_back {y : Nat} (h : (scan a b p l y).2 = none) (hx : x ≤ y) : (scan a b p l x).2 = none := by
  cases e : (scan a b p l x).2 with
  | none => rfl
  | some w =>
    have := scan_stop (a := a) (b := b) (p := p) (l := l) (x := x) (l' := (scan a b p l x).1) (w := w) (by rw [← e]) y hx
    rw [this] at h
    simp at h
end

/-- The first i pairs of the list: the list, and the word that was found. -/
def srch (a b : Mach) (s t : Int) : Nat → List Pl × Option (List Int)
  | 0 => ([⟨s, t, []⟩], none)
  | i + 1 => match (srch a b s t i).2 with
    | some w => ((srch a b s t i).1, some w)
    | none => match (srch a b s t i).1[i]? with
      | none => ((srch a b s t i).1, none)
      | some p => scan a b p (srch a b s t i).1 a.inputs.toNat
/-- The word that is found. -/
def firstW (a b : Mach) (s t : Int) : Option (List Int) := (srch a b s t (a.next.length * b.next.length)).2

section
variable {a b : Mach} {s t : Int} {p : Pl} {l l' : List Pl} {i x : Nat} {w : List Int}
theorem srch_step (h : srch a b s t i = (l, none)) (hp : l[i]? = some p) : srch a b s t (i + 1) = scan a b p l a.inputs.toNat := by
  conv => lhs; unfold srch
  simp only [h, hp]
theorem srch_stop (h : srch a b s t i = (l, some w)) : ∀ j, i ≤ j → srch a b s t j = (l, some w) := by
  intro j hj
  induction j with
  | zero => obtain rfl : i = 0 := by omega
            exact h
  | succ j ih =>
    by_cases e : i = j + 1
    · rw [← e]; exact h
    · have := ih (by omega)
      conv => lhs; unfold srch
      simp only [this]
theorem srch_rest (h : srch a b s t i = (l, none)) (hl : l.length ≤ i) : ∀ j, i ≤ j → srch a b s t j = (l, none) := by
  intro j hj
  induction j with
  | zero => obtain rfl : i = 0 := by omega
            exact h
  | succ j ih =>
    by_cases e : i = j + 1
    · rw [← e]; exact h
    · have := ih (by omega)
      conv => lhs; unfold srch
      simp only [this, List.getElem?_eq_none (show l.length ≤ j by omega)]
theorem first_found (h : srch a b s t i = (l, none)) (hp : l[i]? = some p) (hs : scan a b p l x = (l', some w)) (hx : x ≤ a.inputs.toNat) (hi : i < a.next.length * b.next.length) : firstW a b s t = some w := by
  have h1 := srch_step h hp
  rw [scan_stop hs _ hx] at h1
  unfold firstW
  rw [srch_stop h1 _ (by omega)]
theorem first_none (h : srch a b s t i = (l, none)) (hl : l.length ≤ i) (hi : i ≤ a.next.length * b.next.length) : firstW a b s t = none := by
  unfold firstW
  rw [srch_rest h hl _ hi]

/-- The list stays among the pairs, each once; words are short. -/
structure GoodP (a b : Mach) (l : List Pl) : Prop where
  range : ∀ q ∈ l, 0 ≤ q.s ∧ q.s < a.next.length ∧ 0 ≤ q.t ∧ q.t < b.next.length
  nodup : (l.map fun q => (q.s * (b.next.length : Int) + q.t : Int)).Nodup
  word : ∀ q ∈ l, q.word.length < l.length

theorem pair_inj {n s t s' t' : Int} (h0 : 0 ≤ t) (h1 : t < n) (h0' : 0 ≤ t') (h1' : t' < n) (h : s * n + t = s' * n + t') : s = s' ∧ t = t' := by
  have e : (s - s') * n = t' - t := by rw [Int.sub_mul]; omega
  by_cases hs : s = s'
  · subst hs; exact ⟨rfl, by omega⟩
  · exfalso
    rcases Int.lt_or_gt_of_ne hs with h2 | h2
    · have : (s' - s) * n ≥ 1 * n := Int.mul_le_mul_of_nonneg_right (by omega) (by omega)
      have e2 : (s' - s) * n = -((s - s') * n) := by rw [← Int.neg_mul]; congr 1; omega
      omega
    · have : (s - s') * n ≥ 1 * n := Int.mul_le_mul_of_nonneg_right (by omega) (by omega)
      omega
theorem GoodP.one (hs : 0 ≤ s ∧ s < a.next.length) (ht : 0 ≤ t ∧ t < b.next.length) : GoodP a b [⟨s, t, []⟩] :=
  ⟨fun q hq => by simp at hq; subst hq; exact ⟨hs.1, hs.2, ht.1, ht.2⟩, by simp, fun q hq => by simp at hq; subst hq; simp⟩
theorem GoodP.push (h : GoodP a b l) {q : Pl} (hs : 0 ≤ q.s ∧ q.s < a.next.length) (ht : 0 ≤ q.t ∧ q.t < b.next.length) (hk : known l q.s q.t = false) (hw : q.word.length ≤ l.length) : GoodP a b (l ++ [q]) := by
  refine ⟨fun r hr => ?_, ?_, fun r hr => ?_⟩
  · rw [List.mem_append, List.mem_singleton] at hr
    rcases hr with hr | rfl
    · exact h.range r hr
    · exact ⟨hs.1, hs.2, ht.1, ht.2⟩
  · rw [List.map_append, List.nodup_append]
    refine ⟨h.nodup, by simp, fun u hu v hv => ?_⟩
    simp only [List.map_cons, List.map_nil, List.mem_singleton] at hv
    subst hv
    intro e
    obtain ⟨r, hr, rfl⟩ := List.mem_map.1 hu
    obtain ⟨h1, h2, h3, h4⟩ := h.range r hr
    obtain ⟨e1, e2⟩ := pair_inj h3 h4 ht.1 ht.2 e
    have : known l q.s q.t = true := known_iff.2 ⟨r, hr, e1, e2⟩
    rw [hk] at this; cases this
  · rw [List.length_append, List.length_singleton]
    rw [List.mem_append, List.mem_singleton] at hr
    rcases hr with hr | rfl
    · have := h.word r hr; omega
    · omega
theorem GoodP.le (h : GoodP a b l) : l.length ≤ a.next.length * b.next.length := by
  have := nodup_le (a.next.length * b.next.length) _ h.nodup (fun y hy => by
    obtain ⟨q, hq, rfl⟩ := List.mem_map.1 hy
    obtain ⟨h1, h2, h3, h4⟩ := h.range q hq
    have h5 : q.s * b.next.length ≤ (a.next.length - 1 : Int) * b.next.length := Int.mul_le_mul_of_nonneg_right (by omega) (by omega)
    have h6 : 0 ≤ q.s * (b.next.length : Int) := Int.mul_nonneg h1 (by omega)
    rw [Int.sub_mul, Int.one_mul] at h5
    refine ⟨by omega, ?_⟩
    rw [Int.natCast_mul]
    omega)
  rwa [List.length_map] at this

/-- What a pair must be for a round. -/
theorem GoodP.scan (oa : a.Ok) (ob : b.Ok) (hi : a.inputs = b.inputs) (h : GoodP a b l) (hp : p ∈ l) : ∀ x, x ≤ a.inputs.toNat → GoodP a b (scan a b p l x).1
  | 0, _ => h
  | x + 1, hx => by
    have ih := GoodP.scan oa ob hi h hp x (by omega)
    obtain ⟨r, hr⟩ := scan_cases a b p l x
    unfold Proofs.Ytdnmgiabgpilkaa.scan
    split
    · exact ih
    · split
      · exact ih
      · split
        · exact ih
        · rename_i hk
          obtain ⟨h1, h2, h3, h4⟩ := h.range p hp
          have n1 := oa.nx p.s.toNat x (by omega) (by omega)
          have n2 := ob.nx p.t.toNat x (by omega) (by omega)
          refine ih.push n1 n2 (by simpa using hk) ?_
          have := h.word p hp
          rw [hr]
          simp only [List.length_append, List.length_singleton]
          omega
theorem GoodP.srch (oa : a.Ok) (ob : b.Ok) (hi : a.inputs = b.inputs) (hs : 0 ≤ s ∧ s < a.next.length) (ht : 0 ≤ t ∧ t < b.next.length) : ∀ i, GoodP a b (srch a b s t i).1
  | 0 => GoodP.one hs ht
  | i + 1 => by
    have ih := GoodP.srch oa ob hi hs ht i
    unfold Proofs.Ytdnmgiabgpilkaa.srch
    split
    · exact ih
    · split
      · exact ih
      · rename_i p hp
        exact ih.scan oa ob hi (List.mem_of_getElem? hp) _ (Nat.le_refl _)
end
end Go.Proofs.Ytdnmgiabgpilkaa
