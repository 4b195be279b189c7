/- The plain words for reachable states: the breadth-first list. Condition where named: the machine is valid. -/
import Derived.Test.YtdnmgiabgpilkaaPlain
namespace Go.Proofs.Ytdnmgiabgpilkaa

/-- The list with those of the row that are new, in order. -/
def visit : List Int → List Int → List Int
  | l, [] => l
  | l, t :: r => visit (if t ∈ l then l else l ++ [t]) r

theorem visit_append (l : List Int) : ∀ (r r' : List Int), visit l (r ++ r') = visit (visit l r) r' := by
  intro r
  induction r generalizing l with
  | nil => intro _; rfl
  | cons t r ih => intro r'; exact ih _ r'

theorem visit_snoc (l : List Int) (r : List Int) (t : Int) : visit l (r ++ [t]) = if t ∈ visit l r then visit l r else visit l r ++ [t] := by
  rw [visit_append]; rfl

theorem visit_prefix : ∀ (r l : List Int), ∃ s, visit l r = l ++ s
  | [], l => ⟨[], by simp [visit]⟩
  | t :: r, l => by
    obtain ⟨s, hs⟩ := visit_prefix r (if t ∈ l then l else l ++ [t])
    simp only [visit, hs]
    by_cases h : t ∈ l
    · exact ⟨s, by rw [if_pos h]⟩
    · exact ⟨[t] ++ s, by rw [if_neg h, List.append_assoc]⟩

theorem visit_mem : ∀ (r l : List Int) (x : Int), x ∈ visit l r ↔ x ∈ l ∨ x ∈ r
  | [], l, x => by simp [visit]
  | t :: r, l, x => by
    rw [visit, visit_mem r]
    by_cases h : t ∈ l
    · rw [if_pos h]
      constructor
      · rintro (h1 | h1)
        · exact .inl h1
        · exact .inr (by simp [h1])
      · rintro (h1 | h1)
        · exact .inl h1
        · rcases List.mem_cons.1 h1 with rfl | h2
          · exact .inl h
          · exact .inr h2
    · rw [if_neg h]
      simp only [List.mem_append, List.mem_cons, List.not_mem_nil, or_false]
      constructor
      · rintro ((h1 | h1) | h1)
        · exact .inl h1
        · exact .inr (.inl h1)
        · exact .inr (.inr h1)
      · rintro (h1 | h1 | h1)
        · exact .inl (.inl h1)
        · exact .inl (.inr h1)
        · exact .inr h1

theorem visit_nodup : ∀ (r l : List Int), l.Nodup → (visit l r).Nodup
  | [], l, h => h
  | t :: r, l, h => by
    rw [visit]
    apply visit_nodup r
    by_cases e : t ∈ l
    · rw [if_pos e]; exact h
    · rw [if_neg e]
      rw [List.nodup_append]
      exact ⟨h, by simp, fun a ha b hb => by simp at hb; subst hb; exact fun e2 => e (e2 ▸ ha)⟩

/-- A list without repetition of numbers below n has at most n members. -/
theorem nodup_le : ∀ (n : Nat) (l : List Int), l.Nodup → (∀ x ∈ l, 0 ≤ x ∧ x < n) → l.length ≤ n
  | 0, l, _, h => by
    cases l with
    | nil => simp
    | cons x l => have := h x (by simp); omega
  | n + 1, l, hd, h => by
    have h1 := nodup_le n (l.filter fun x => decide (x ≠ (n : Int))) (hd.filter _) (fun x hx => by
      have h2 := List.mem_filter.1 hx
      have h3 := h x h2.1
      have h4 : x ≠ n := by simpa using h2.2
      omega)
    have h2 : l.length ≤ (l.filter fun x => decide (x ≠ (n : Int))).length + 1 := by
      clear h1 h
      induction l with
      | nil => simp
      | cons y l ih =>
        have hd' := List.nodup_cons.1 hd
        by_cases e : y = n
        · have : l.filter (fun x => decide (x ≠ (n : Int))) = l := by
            rw [List.filter_eq_self]
            intro a ha
            have : a ≠ y := fun e2 => hd'.1 (e2 ▸ ha)
            simpa [← e] using this
          simp [e]
          have h5 : l.filter (fun x => !decide (x = (n : Int))) = l := by
            rw [List.filter_eq_self]
            intro a ha
            have : a ≠ y := fun e2 => hd'.1 (e2 ▸ ha)
            simpa [← e] using this
          rw [h5]; omega
        · have := ih hd'.2
          simp [e] at this ⊢
          omega
    omega

namespace Mach
variable (m : Mach)

/-- The list after i rounds. -/
def bfs : Nat → List Int
  | 0 => [m.start]
  | i + 1 => if i < (bfs i).length then visit (bfs i) (m.next.getD ((bfs i).getD i 0).toNat []) else bfs i

theorem bfs_succ (i : Nat) : m.bfs (i + 1) = if i < (m.bfs i).length then visit (m.bfs i) (m.next.getD ((m.bfs i).getD i 0).toNat []) else m.bfs i := rfl

/-- What Reach answers. -/
def reach : List Int := m.bfs m.next.length
def reachOf : List Int := if m.err = 0 then m.reach else []

variable {m}
theorem row_range (ok : m.Ok) {s : Nat} (hs : s < m.next.length) {x : Int} (hx : x ∈ m.next.getD s []) : 0 ≤ x ∧ x < m.next.length := by
  obtain ⟨a, ha, rfl⟩ := List.getElem_of_mem hx
  have h1 := ok.rn s hs
  have h2 := ok.nx s a hs (by omega)
  unfold nx at h2
  rw [List.getD_eq_getElem?_getD (l := m.next.getD s []), List.getElem?_eq_getElem ha] at h2
  exact h2

theorem bfs_props (ok : m.Ok) : ∀ i, (m.bfs i).Nodup ∧ (∀ x ∈ m.bfs i, 0 ≤ x ∧ x < m.next.length) ∧ 0 < (m.bfs i).length
  | 0 => ⟨by simp [bfs], fun x hx => by simp [bfs] at hx; subst hx; exact ⟨ok.s0, ok.s1⟩, by simp [bfs]⟩
  | i + 1 => by
    obtain ⟨h1, h2, h3⟩ := bfs_props ok i
    rw [bfs_succ]
    by_cases h : i < (m.bfs i).length
    · rw [if_pos h]
      have hm : (m.bfs i).getD i 0 ∈ m.bfs i := by
        rw [List.getD_eq_getElem?_getD, List.getElem?_eq_getElem h]
        exact List.getElem_mem h
      have h4 := h2 _ hm
      refine ⟨visit_nodup _ _ h1, fun x hx => ?_, ?_⟩
      · rcases (visit_mem _ _ _).1 hx with h5 | h5
        · exact h2 x h5
        · exact row_range ok (by omega) h5
      · obtain ⟨s, hs⟩ := visit_prefix (m.next.getD ((m.bfs i).getD i 0).toNat []) (m.bfs i)
        rw [hs]
        simp; omega
    · rw [if_neg h]; exact ⟨h1, h2, h3⟩

theorem bfs_le (ok : m.Ok) (i : Nat) : (m.bfs i).length ≤ m.next.length := nodup_le _ _ (bfs_props ok i).1 (bfs_props ok i).2.1

theorem bfs_stop {i : Nat} (h : ¬ i < (m.bfs i).length) : ∀ j, i ≤ j → m.bfs j = m.bfs i := by
  intro j hj
  induction j with
  | zero => obtain rfl : i = 0 := by omega
            rfl
  | succ j ih =>
    by_cases e : i = j + 1
    · rw [e]
    · have := ih (by omega)
      rw [bfs_succ, this, if_neg (by omega)]

theorem reach_of_stop {i : Nat} (h : ¬ i < (m.bfs i).length) (hi : i ≤ m.next.length) : m.reach = m.bfs i := bfs_stop h _ hi

end Mach
end Go.Proofs.Ytdnmgiabgpilkaa
