/- The plain words for classes: the numbering of states by a test of sameness. No condition: definitions and their laws. -/
import Derived.Test.YtdnmgiabgpilkaaPlain
namespace Go.Proofs.Ytdnmgiabgpilkaa

/-- The number of the first of the d states before s that is like s; -1 if there is none. -/
def look (E : Nat → Nat → Bool) (l : List Int) (s : Nat) : Nat → Int
  | 0 => -1
  | d + 1 => if E (s - (d + 1)) s then l.getD (s - (d + 1)) 0 else look E l s d

/-- States are numbered in the order in which their classes come up: the list for the first k states, and how many classes there are. -/
def canon (E : Nat → Nat → Bool) : Nat → List Int × Int
  | 0 => ([], 0)
  | k + 1 => let p := canon E k
    if look E p.1 k k < 0 then (p.1 ++ [p.2], p.2 + 1) else (p.1 ++ [look E p.1 k k], p.2)

theorem canon_length (E : Nat → Nat → Bool) : ∀ k, (canon E k).1.length = k
  | 0 => rfl
  | k + 1 => by simp only [canon]; split <;> simp [canon_length E k]

theorem canon_new (E : Nat → Nat → Bool) {k : Nat} (h : look E (canon E k).1 k k < 0) : canon E (k + 1) = ((canon E k).1 ++ [(canon E k).2], (canon E k).2 + 1) := by
  simp only [canon, h, if_true]
theorem canon_old (E : Nat → Nat → Bool) {k : Nat} (h : ¬ look E (canon E k).1 k k < 0) : canon E (k + 1) = ((canon E k).1 ++ [look E (canon E k).1 k k], (canon E k).2) := by
  simp only [canon, h, if_false]

/-- What look finds. -/
theorem look_spec (E : Nat → Nat → Bool) (l : List Int) (s : Nat) : ∀ d, d ≤ s → (look E l s d = -1 ∧ ∀ t, s - d ≤ t → t < s → E t s = false) ∨ ∃ t, s - d ≤ t ∧ t < s ∧ E t s = true ∧ look E l s d = l.getD t 0 ∧ ∀ t', s - d ≤ t' → t' < t → E t' s = false
  | 0, _ => .inl ⟨rfl, fun t h1 h2 => by omega⟩
  | d + 1, hd => by
    by_cases e : E (s - (d + 1)) s = true
    · refine .inr ⟨s - (d + 1), Nat.le_refl _, by omega, e, by simp only [look, e, if_true], fun t' h1 h2 => by omega⟩
    · have e' : E (s - (d + 1)) s = false := by simpa using e
      have hl : look E l s (d + 1) = look E l s d := by simp only [look, e', Bool.false_eq_true, if_false]
      rcases look_spec E l s d (by omega) with ⟨h1, h2⟩ | ⟨t, h1, h2, h3, h4, h5⟩
      · refine .inl ⟨by rw [hl, h1], fun t ht1 ht2 => ?_⟩
        by_cases e2 : t = s - (d + 1)
        · rw [e2]; exact e'
        · exact h2 t (by omega) ht2
      · refine .inr ⟨t, by omega, h2, h3, by rw [hl, h4], fun t' ht1 ht2 => ?_⟩
        by_cases e2 : t' = s - (d + 1)
        · rw [e2]; exact e'
        · exact h5 t' (by omega) ht2

theorem canon_succ (E : Nat → Nat → Bool) (k : Nat) : canon E (k + 1) = if look E (canon E k).1 k k < 0 then ((canon E k).1 ++ [(canon E k).2], (canon E k).2 + 1) else ((canon E k).1 ++ [look E (canon E k).1 k k], (canon E k).2) := rfl

/-- The numbers lie between 0 and the number of classes. -/
theorem canon_range (E : Nat → Nat → Bool) : ∀ k, 0 ≤ (canon E k).2 ∧ (canon E k).2 ≤ k ∧ ∀ t, t < k → 0 ≤ (canon E k).1.getD t 0 ∧ (canon E k).1.getD t 0 < (canon E k).2
  | 0 => ⟨Int.le_refl _, Int.le_refl _, fun t h => by omega⟩
  | k + 1 => by
    obtain ⟨h0, h1, h2⟩ := canon_range E k
    have hlen := canon_length E k
    by_cases hl : look E (canon E k).1 k k < 0
    · rw [canon_new E hl]
      refine ⟨by simp only; omega, by simp only; omega, fun t ht => ?_⟩
      simp only
      by_cases e : t = k
      · subst e
        have : ((canon E t).1 ++ [(canon E t).2]).getD t 0 = (canon E t).2 := by
          rw [List.getD_eq_getElem?_getD, List.getElem?_append_right (by omega), hlen]; simp
        rw [this]; omega
      · have : ((canon E k).1 ++ [(canon E k).2]).getD t 0 = (canon E k).1.getD t 0 := by
          rw [List.getD_eq_getElem?_getD, List.getElem?_append_left (by omega), ← List.getD_eq_getElem?_getD]
        rw [this]
        have := h2 t (by omega)
        omega
    · rw [canon_old E hl]
      refine ⟨h0, by simp only; omega, fun t ht => ?_⟩
      simp only
      by_cases e : t = k
      · subst e
        have : ((canon E t).1 ++ [look E (canon E t).1 t t]).getD t 0 = look E (canon E t).1 t t := by
          rw [List.getD_eq_getElem?_getD, List.getElem?_append_right (by omega), hlen]; simp
        rw [this]
        rcases look_spec E (canon E t).1 t t (Nat.le_refl _) with ⟨h3, _⟩ | ⟨t', _, h4, _, h5, _⟩
        · omega
        · rw [h5]; exact h2 t' h4
      · have : ((canon E k).1 ++ [look E (canon E k).1 k k]).getD t 0 = (canon E k).1.getD t 0 := by
          rw [List.getD_eq_getElem?_getD, List.getElem?_append_left (by omega), ← List.getD_eq_getElem?_getD]
        rw [this]
        exact h2 t (by omega)

namespace Mach
variable (m : Mach)

/-- The reference's test: the same class, outputs, and classes of the next states; up to the input k. -/
def sameTo (cls : List Int) (t s : Nat) (k : Nat) : Prop := cls.getD s 0 = cls.getD t 0 ∧ ∀ a, a < k → m.ot s a = m.ot t a ∧ cls.getD (m.nx s a).toNat 0 = cls.getD (m.nx t a).toNat 0
instance (cls : List Int) (t s k : Nat) : Decidable (m.sameTo cls t s k) := by unfold sameTo; exact inferInstance
def sameR (cls : List Int) (t s : Nat) : Bool := decide (m.sameTo cls t s m.inputs.toNat)
/-- The program's test. -/
def sameP (cls : List Int) (t s : Nat) : Bool := decide (∀ a, a < m.inputs.toNat → m.ot s a = m.ot t a ∧ cls.getD (m.nx s a).toNat 0 = cls.getD (m.nx t a).toNat 0)

theorem sameTo_mono {cls : List Int} {t s k : Nat} (hk : k ≤ m.inputs.toNat) (h : ¬ m.sameTo cls t s k) : m.sameR cls t s = false := by
  unfold sameR
  rw [decide_eq_false_iff_not]
  intro h2
  exact h ⟨h2.1, fun a ha => h2.2 a (by omega)⟩
theorem sameTo_succ {cls : List Int} {t s k : Nat} (h : m.sameTo cls t s k) (h2 : m.ot s k = m.ot t k) (h3 : cls.getD (m.nx s k).toNat 0 = cls.getD (m.nx t k).toNat 0) : m.sameTo cls t s (k + 1) := by
  refine ⟨h.1, fun a ha => ?_⟩
  by_cases e : a = k
  · rw [e]; exact ⟨h2, h3⟩
  · exact h.2 a (by omega)
theorem not_sameTo_succ {cls : List Int} {t s k : Nat} (h : ¬ (m.ot s k = m.ot t k ∧ cls.getD (m.nx s k).toNat 0 = cls.getD (m.nx t k).toNat 0)) : ¬ m.sameTo cls t s (k + 1) := fun h2 => h (h2.2 k (by omega))

/-- The classes of k-equivalence, as the reference finds them. -/
def part : Nat → List Int
  | 0 => List.replicate m.next.length 0
  | k + 1 => (canon (m.sameR (part k)) m.next.length).1

theorem part_succ (k : Nat) : m.part (k + 1) = (canon (m.sameR (m.part k)) m.next.length).1 := rfl
theorem part_length (k : Nat) : (m.part k).length = m.next.length := by
  cases k with
  | zero => simp [part]
  | succ k => rw [part_succ, canon_length]

/-- What Partition answers. -/
def partOf (k : Int) : List Int := if m.err = 0 then m.part (min k.toNat m.next.length) else []

end Mach
end Go.Proofs.Ytdnmgiabgpilkaa
