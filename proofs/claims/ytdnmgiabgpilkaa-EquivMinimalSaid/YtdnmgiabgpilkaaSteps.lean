/- The plain law of Partition and Depth: what the program counts is what the reference finds. Condition: the machine is valid. -/
import Derived.Test.YtdnmgiabgpilkaaEqv
namespace Go.Proofs.Ytdnmgiabgpilkaa
namespace Mach

/-- The classes after k steps of the program, and their number. -/
def pp (m : Mach) : Nat → List Int × Int
  | 0 => (List.replicate m.next.length 0, 1)
  | k + 1 => canon (m.sameP (pp m k).1) m.next.length
theorem pp_succ (m : Mach) (k : Nat) : m.pp (k + 1) = canon (m.sameP (m.pp k).1) m.next.length := rfl
theorem pp_length (m : Mach) (k : Nat) : (m.pp k).1.length = m.next.length := by
  cases k with
  | zero => simp [pp]
  | succ k => rw [pp_succ, canon_length]

/-- How often the classes change in at most K steps: d is that number. -/
def Steps (m : Mach) (K d : Nat) : Prop := d ≤ K ∧ (∀ j, j < d → (m.pp (j + 1)).2 ≠ (m.pp j).2) ∧ (d = K ∨ (m.pp (d + 1)).2 = (m.pp d).2)

variable {m : Mach}

theorem pp_part (ok : m.Ok) : ∀ k, (m.pp k).1 = m.part k
  | 0 => rfl
  | k + 1 => by
    rw [pp_succ, part_succ, pp_part ok k]
    congr 1
    apply canon_congr
    intro s hs t ht
    rw [Bool.eq_iff_iff, sameP_iff ok k s hs t ht, sameR_iff ok k s hs t ht]

theorem pp_canon (ok : m.Ok) (k : Nat) : m.pp (k + 1) = canon (m.sameR (m.part k)) m.next.length := by
  rw [pp_succ, pp_part ok k]
  apply canon_congr
  intro s hs t ht
  rw [Bool.eq_iff_iff, sameP_iff ok k s hs t ht, sameR_iff ok k s hs t ht]

/-- The number of classes is that of k-equivalence. -/
theorem pp_count (ok : m.Ok) (k : Nat) : ∃ E : Nat → Nat → Bool, (∀ s, s < m.next.length → ∀ t, t < s → (E t s = true ↔ m.eqv k t s)) ∧ (m.pp k).2 = (canon E m.next.length).2 := by
  cases k with
  | zero =>
    refine ⟨fun _ _ => true, fun s _ t _ => by simp [eqv], ?_⟩
    have : ∀ n, (canon (fun _ _ => true) (n + 1)).2 = 1 := by
      intro n
      rw [canon_count]
      have h1 : ∀ n, (List.range (n + 1)).filter (isFirst (fun _ _ => true)) = [0] := by
        intro n
        induction n with
        | zero => rfl
        | succ n ih =>
          rw [List.range_succ, List.filter_append, ih]
          have : isFirst (fun _ _ => true) (n + 1) = false := by
            unfold isFirst
            rw [List.all_eq_false]
            exact ⟨0, by simp, by simp⟩
          simp [this]
      rw [h1]; rfl
    obtain ⟨n, hn⟩ : ∃ n, m.next.length = n + 1 := ⟨m.next.length - 1, by have := ok.n0; omega⟩
    rw [hn, this]; rfl
  | succ k => exact ⟨m.sameR (m.part k), sameR_iff ok k, by rw [pp_canon ok k]⟩

theorem same_of_count (ok : m.Ok) {k : Nat} (h : (m.pp (k + 1)).2 = (m.pp k).2) : ∀ s t, s < m.next.length → t < m.next.length → (m.eqv k s t ↔ m.eqv (k + 1) s t) := by
  obtain ⟨E, hE, e1⟩ := pp_count ok k
  obtain ⟨E', hE', e2⟩ := pp_count ok (k + 1)
  exact finer_same (m.eqv_eqv _ _) (m.eqv_eqv _ _) hE hE' (fun s t _ _ => m.eqv_mono k s t) (by rw [← e1, ← e2, h])

theorem count_of_same (ok : m.Ok) {k : Nat} (h : ∀ s t, s < m.next.length → t < m.next.length → (m.eqv k s t ↔ m.eqv (k + 1) s t)) : (m.pp (k + 1)).2 = (m.pp k).2 := by
  obtain ⟨E, hE, e1⟩ := pp_count ok k
  obtain ⟨E', hE', e2⟩ := pp_count ok (k + 1)
  rw [e1, e2]
  congr 1
  apply canon_congr
  intro s hs t ht
  rw [Bool.eq_iff_iff, hE s hs t ht, hE' s hs t ht]
  exact (h t s (by omega) hs).symm

theorem count_mono (ok : m.Ok) (k : Nat) : (m.pp k).2 ≤ (m.pp (k + 1)).2 := by
  obtain ⟨E, hE, e1⟩ := pp_count ok k
  obtain ⟨E', hE', e2⟩ := pp_count ok (k + 1)
  rw [e1, e2, canon_count, canon_count]
  have hsub : ∀ x ∈ List.range m.next.length, isFirst E x = true → isFirst E' x = true := by
    intro x hx hf
    have hx' : x < m.next.length := by simpa using hx
    rw [isFirst_iff hE' hx']
    exact fun t ht hr => (isFirst_iff hE hx').1 hf t ht (m.eqv_mono k t x hr)
  have hle : ∀ l : List Nat, (∀ x ∈ l, isFirst E x = true → isFirst E' x = true) → (l.filter (isFirst E)).length ≤ (l.filter (isFirst E')).length := by
    intro l h
    induction l with
    | nil => simp
    | cons y l ih =>
      have := ih (fun z hz => h z (by simp [hz]))
      by_cases hp : isFirst E y = true
      · simp [hp, h y (by simp) hp]; exact this
      · by_cases hq : isFirst E' y = true
        · simp [hp, hq]; omega
        · simp [hp, hq]; exact this
  have := hle _ hsub
  omega

theorem count_le (ok : m.Ok) (k : Nat) : (m.pp k).2 ≤ m.next.length := by
  obtain ⟨E, _, e1⟩ := pp_count ok k
  rw [e1]
  exact (canon_range E _).2.1

/-- The classes that the program answers are the reference's. -/
theorem Steps.classes (ok : m.Ok) {K d : Nat} (h : m.Steps K d) : (m.pp d).1 = m.part K := by
  rw [pp_part ok d]
  rcases h.2.2 with e | e
  · rw [e]
  · exact part_eq ok (fun s t hs ht => eqv_stable ok (same_of_count ok e) K h.1 s t hs ht)

theorem Steps.grow (ok : m.Ok) {K d : Nat} (h : m.Steps K d) : ∀ j, j ≤ d → (j : Int) + 1 ≤ (m.pp j).2
  | 0, _ => by simp [pp]
  | j + 1, hj => by
    have ih := Steps.grow ok h j (by omega)
    have h1 := h.2.1 j (by omega)
    have h2 := count_mono ok j
    omega

/-- Within as many steps as there are states the classes come to rest. -/
theorem Steps.rest (ok : m.Ok) {K d : Nat} (h : m.Steps K d) (hK : m.next.length ≤ K + 1) : d < m.next.length ∧ ∀ j, d ≤ j → m.part j = m.part d := by
  have h1 := h.grow ok d (Nat.le_refl _)
  have h2 := count_le ok d
  have hd : d < m.next.length := by omega
  refine ⟨hd, fun j hj => ?_⟩
  have e : (m.pp (d + 1)).2 = (m.pp d).2 := by
    rcases h.2.2 with e | e
    · subst e
      have h3 := count_mono ok d
      have h4 := count_le ok (d + 1)
      omega
    · exact e
  exact (part_eq ok (fun s t hs ht => eqv_stable ok (same_of_count ok e) j hj s t hs ht)).symm

/-- Before that they differ from what they come to. -/
theorem Steps.before (ok : m.Ok) {K d : Nat} (h : m.Steps K d) {j n : Nat} (hj : j < d) (hn : d ≤ n) : m.part j ≠ m.part n := by
  intro he
  refine h.2.1 j hj (count_of_same ok fun s t hs ht => ⟨fun hr => ?_, m.eqv_mono j s t⟩)
  have h1 := (part_iff ok j s t hs ht).2 hr
  rw [he] at h1
  exact m.eqv_le ((part_iff ok n s t hs ht).1 h1) (by omega)

end Mach
end Go.Proofs.Ytdnmgiabgpilkaa
